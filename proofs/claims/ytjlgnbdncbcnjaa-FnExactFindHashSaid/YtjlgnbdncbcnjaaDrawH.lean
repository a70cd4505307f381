/- The readers of names and of hash tables. -/
import Derived.Test.YtjlgnbdncbcnjaaDrawI
import Derived.Test.YtjlgnbdncbcnjaaHash
set_option linter.unusedVariables false
set_option linter.unusedSimpArgs false
namespace Go.Proofs.Ytjlgnbdncbcnjaa
open Go Go.RowKit


def nmsB (l : List ByteArray) : Prop := (l.all nameB && decide l.Nodup) = true
theorem nmsB_iff {l : List ByteArray} : nmsB l ↔ l.all nameB = true ∧ l.Nodup := by simp [nmsB]
/-- None of the names is this one. -/
def allNe (l : List ByteArray) (s : ByteArray) : Prop := (l.all fun y => decide (y ≠ s)) = true
theorem allNe_iff {l : List ByteArray} {s : ByteArray} : allNe l s ↔ ∀ y ∈ l, y ≠ s := by simp [allNe]
theorem allNe_zero {l : List ByteArray} {s : ByteArray} : allNe (l.take (Int.toNat 0)) s := rfl
theorem nmsB_nil : nmsB [] := rfl
theorem nmsB_app {l : List ByteArray} {s : ByteArray} {k : Int} (h : nmsB l) (hs : nameB s = true) (hk : (l.length : Int) ≤ k) (hn : allNe (l.take k.toNat) s) : nmsB (l ++ [s]) := by
  rw [List.take_of_length_le (by omega), allNe_iff] at hn
  rw [nmsB_iff] at *
  refine ⟨by rw [List.all_append, h.1]; simp [hs], List.nodup_append.2 ⟨h.2, by simp, fun a ha b hb => ?_⟩⟩
  simp only [List.mem_singleton] at hb
  subst hb
  exact hn a ha
theorem allB_app {l : List ByteArray} {s : ByteArray} {n : Int} (h : n ≤ 0 → l.all nameB = true) (hs : n ≤ 0 → nameB s = true) (hn : n ≤ 0) : (l ++ [s]).all nameB = true := by
  rw [List.all_append, h hn]; simp [hs hn]
theorem ne_next {l : List ByteArray} {k : Int} {s x : ByteArray} (hk : 0 ≤ k) (h : l[k.toNat]? = some x) (hx : ¬ x = s) (ha : allNe (l.take k.toNat) s) : allNe (l.take (k + 1).toNat) s := by
  rw [toNat_succ hk, take_snoc h]
  rw [allNe_iff] at *
  intro y hy
  rcases List.mem_append.1 hy with hy | hy
  · exact ha y hy
  · simp only [List.mem_singleton] at hy; rw [hy]; exact hx
theorem nms_hash {l : List ByteArray} {b : Int} (h : nmsB l) (hl : l.length ≤ 7) (h1 : 1 ≤ b) (h2 : b ≤ 8) : hashOk l b = true ∧ (mkHash l b).names = l ∧ (mkHash l b).first.length = b.toNat ∧ (mkHash l b).next.length = l.length := by
  have h' := nmsB_iff.1 h
  have ho : hashOk l b = true := hashOk_iff.2 ⟨⟨by omega, h1, h2⟩, h'.1, h'.2⟩
  have := mkHash_yes ho
  exact ⟨ho, this.1, this.2.2.2.1, this.2.2.2.2.1⟩
def C_spec_l20Names : Con := { ps := [.box (.ty (.st .reader)), .ro .i], out := fun x => let r : Reader := x.1; let n : Int := x.2.1; .req (0 ≤ r.p ∧ r.p ≤ 100000000 ∧ n ≤ 1000000) (.all (List ByteArray) fun l => .all Int fun p => .giv (r.p ≤ p ∧ p ≤ r.p + 30 ∧ l.length ≤ 7 ∧ (n ≤ 0 → l.all nameB = true)) (rdE 9 .str l p)), det := false }
def G_spec_l20Names : Cfg := mkG (tyL [(3, .i), (5, .u), (4, .bool), (9, .str), (80, .int .u64), (26, .st .hash), (24, .list .i), (22, .list .str), (38, .list .u), (33, .st .hash)]) [(50, C_spec_l20Rd_pick), (55, C_spec_l20Name)] false
def an_spec_l20Names : PTL C_spec_l20Names.ps → Nat → Option Ann := fun x kk_ => let r : Reader := x.1; let n : Int := x.2.1; if kk_ = 3 then some (.all (List ByteArray) fun o => .all (Int) fun k => .all (Int) fun p => .giv (0 ≤ k ∧ k + o.length ≤ 7 ∧ r.p ≤ p ∧ p + 3 * k ≤ r.p + 23 ∧ (n ≤ 0 → o.all nameB = true)) (.mk [(5, asl 20), (6, ai k), (0, aref 0), (1, ai n)] [(0, lent (.st .reader) ⟨r.b, p⟩), (20, .row (some 9) .str o true)] (k.toNat))) else none
set_option maxRecDepth 200000 in
theorem vc_spec_l20Names (r : Reader) (n : Int) : (keeps Try.prog G_spec_l20Names (an_spec_l20Names (r, n, ())) (Try.f62.body.getD .skip) Try.f62.results.toList C_spec_l20Names (r, n, ())) = (((((0 : Int) ≤ (Reader.p r)) ∧
 ((Reader.p r) ≤ (1000000000000 : Int))) ∧
 ((∃ (x_1 : (List ByteArray)), (∃ (x_2 : Int), (∃ (x_3 : Int), (((pickF (Reader.b r) (Reader.p r) (8 : Int)) = x_2) ∧
 ((n = n) ∧
 ((@Eq (List Int) (Reader.b r) (Reader.b r)) ∧
 ((((Reader.p r) + (1 : Int)) = x_3) ∧
 ((@Eq (List ByteArray) ([] : List ByteArray) x_1) ∧
 ((((0 : Int) ≤ x_2) ∧
 (((x_2 + (@Nat.cast Int _ (List.length x_1))) ≤ (7 : Int)) ∧
 (((Reader.p r) ≤ x_3) ∧
 (((x_3 + ((3 : Int) * x_2)) ≤ ((Reader.p r) + (23 : Int))) ∧
 ((n ≤ (0 : Int)) →
 ((@List.all ByteArray x_1 nameB) = true)))))) ∧
 True))))))))) ∧
 (∀ (x_4 : (List ByteArray)), (∀ (x_5 : Int), (∀ (x_6 : Int), ((((0 : Int) ≤ x_5) ∧
 (((x_5 + (@Nat.cast Int _ (List.length x_4))) ≤ (7 : Int)) ∧
 (((Reader.p r) ≤ x_6) ∧
 (((x_6 + ((3 : Int) * x_5)) ≤ ((Reader.p r) + (23 : Int))) ∧
 ((n ≤ (0 : Int)) →
 ((@List.all ByteArray x_4 nameB) = true)))))) →
 ((((decide ((0 : Int) < x_5)) = true) →
 ((((0 : Int) ≤ x_6) ∧
 ((x_6 ≤ (1000000000 : Int)) ∧
 (n ≤ (1000000 : Int)))) ∧
 (∀ (x_7 : ByteArray), (∀ (x_8 : Int), (((x_6 ≤ x_8) ∧
 ((x_8 ≤ (x_6 + (3 : Int))) ∧
 (((ByteArray.size x_7) ≤ (16 : Nat)) ∧
 ((n ≤ (0 : Int)) →
 ((nameB x_7) = true))))) →
 ((((((List.length x_4) + (List.length [x_7])) * (16 : Nat)) ≤ (140737488355328 : Nat)) ∧
 (((List.length x_4) + (List.length [x_7])) ≤ (1000000000000 : Nat))) ∧
 ((((- (9223372036854775808 : Int)) ≤ (x_5 - (1 : Int))) ∧
 ((x_5 - (1 : Int)) ≤ (9223372036854775807 : Int))) ∧
 (∃ (x_9 : (List ByteArray)), (∃ (x_10 : Int), (∃ (x_11 : Int), (((x_5 - (1 : Int)) = x_10) ∧
 ((n = n) ∧
 ((@Eq (List Int) (Reader.b r) (Reader.b r)) ∧
 ((x_8 = x_11) ∧
 ((@Eq (List ByteArray) (x_4 ++ [x_7]) x_9) ∧
 ((((0 : Int) ≤ x_10) ∧
 (((x_10 + (@Nat.cast Int _ (List.length x_9))) ≤ (7 : Int)) ∧
 (((Reader.p r) ≤ x_11) ∧
 (((x_11 + ((3 : Int) * x_10)) ≤ ((Reader.p r) + (23 : Int))) ∧
 ((n ≤ (0 : Int)) →
 ((@List.all ByteArray x_9 nameB) = true)))))) ∧
 ((Int.toNat x_10) < (Int.toNat x_5)))))))))))))))))) ∧
 (((decide ((0 : Int) < x_5)) = false) →
 (∃ (x_12 : (List ByteArray)), (∃ (x_13 : Int), (((@Eq (List ByteArray) x_4 x_12) ∧
 ((@Eq (List Int) (Reader.b r) (Reader.b r)) ∧
 ((x_6 = x_13) ∧
 True))) ∧
 (((Reader.p r) ≤ x_13) ∧
 ((x_13 ≤ ((Reader.p r) + (30 : Int))) ∧
 (((List.length x_12) ≤ (7 : Nat)) ∧
 ((n ≤ (0 : Int)) →
 ((@List.all ByteArray x_12 nameB) = true))))))))))))))))) := by kernel_rfl
theorem det_spec_l20Names : C_spec_l20Names.det = true → ∀ x, (C_spec_l20Names.out x).Det := fun h => absurd h Bool.false_ne_true
set_option maxRecDepth 200000 in
set_option maxHeartbeats 1000000 in
theorem ok_spec_l20Names : ConOK Try.prog 62 C_spec_l20Names := by
  refine con_mk (wr := false) (ty := tyL [(3, .i), (5, .u), (4, .bool), (9, .str), (80, .int .u64), (26, .st .hash), (24, .list .i), (22, .list .str), (38, .list .u), (33, .st .hash)]) (l := [(50, C_spec_l20Rd_pick), (55, C_spec_l20Name)]) ⟨⟨ok_spec_l20Rd_pick, det_spec_l20Rd_pick⟩, ⟨⟨ok_spec_l20Name, det_spec_l20Name⟩, trivial⟩⟩ Try.checked.mixed (fn := Try.f62) (body := Try.f62.body.getD .skip) Try.func62 rfl (by decide) (by kernel_rfl) rfl an_spec_l20Names fun x ho hx => ?_
  obtain ⟨r, n, ⟨⟩⟩ := x
  refine Keeps.of (vc_spec_l20Names r n) ?_
  revert r n ho hx
  show ∀ (r : Reader) (n : Int), _
  intro r n ho hx
  dsimp only [C_spec_l20Names, okPTL, okPT, Ok, Ty.cells, SN.cells, OkL, OkC, okI, ci, cb, cs, cl] at ho
  dsimp only [C_spec_l20Names, vc, v1, decB, SR.pre] at hx
  have hb := pickF_bd r.b
  simp only [decide_eq_true_eq, decide_eq_false_iff_not, Bool.not_eq_true', Bool.not_eq_false', and_true, true_and, and_assoc, Int.toNat_natCast, exists_eq_left', exists_eq_left, exists_and_left, Int.not_lt, Int.not_le, Bool.false_eq_true, false_implies, implies_true, forall_const, List.length_append, List.length_cons, List.length_nil, Int.sub_add_cancel, Int.add_sub_cancel, and_imp, ex_img, ex_mem, ex_fix, ex_pat, ex_hash, ex_obj, ex_sym, ex_sect, ex_member, ex_given, eta_hash, eta_obj, eta_sym, eta_sect, eta_member, eta_given, eta_img, eta_mem, forall_eq', forall_eq]; (repeat' first | apply And.intro | (intro x hq _; replace hq := List.mem_of_getElem? hq; simp only [List.mem_cons, List.not_mem_nil, or_false] at hq) | intro _); all_goals (try omega)
  all_goals first | exact allB_app ‹_› ‹_› ‹_› | grind
def C_spec_l20Different : Con := { ps := [.box (.ty (.st .reader))], out := fun x => let r : Reader := x.1; .req (0 ≤ r.p ∧ r.p ≤ 50000000) (.all (List ByteArray) fun l => .all Int fun p => .giv (r.p ≤ p ∧ p ≤ r.p + 30 ∧ l.length ≤ 7 ∧ nmsB l) (rdE 9 .str l p)), det := false }
def G_spec_l20Different : Cfg := mkG (tyL [(3, .i), (5, .u), (4, .bool), (9, .str), (80, .int .u64), (26, .st .hash), (24, .list .i), (22, .list .str), (38, .list .u), (33, .st .hash)]) [(62, C_spec_l20Names)] false
def an_spec_l20Different : PTL C_spec_l20Different.ps → Nat → Option Ann := fun x kk_ => let r : Reader := x.1; if kk_ = 4 then some (.all (List ByteArray) fun o => .all (List ByteArray) fun l => .all (Int) fun k => .all (Int) fun p => .giv (r.p ≤ p ∧ p ≤ r.p + 30 ∧ l.length ≤ 7 ∧ l.all nameB = true ∧ 0 ≤ k ∧ k ≤ l.length ∧ o.length ≤ k ∧ nmsB o) (.mk [(3, asl 20), (4, al .str l), (5, ai k)] [(0, lent (.st .reader) ⟨r.b, p⟩), (20, .row (some 9) .str o true)] ((l.length - k.toNat)))) else if kk_ = 2008 then some (.all (List ByteArray) fun o => .all (List ByteArray) fun l => .all (Int) fun k => .all (Int) fun p => .all (Int) fun j => .all (Bool) fun f => .giv (r.p ≤ p ∧ p ≤ r.p + 30 ∧ l.length ≤ 7 ∧ l.all nameB = true ∧ 0 ≤ k ∧ k < l.length ∧ o.length ≤ k ∧ nmsB o ∧ 0 ≤ j ∧ j ≤ o.length ∧ (∀ s, l[k.toNat]? = some s → f = true → allNe (o.take j.toNat) s)) (.mk [(3, asl 20), (4, al .str l), (5, ai k), (6, ab f), (7, ai j)] [(0, lent (.st .reader) ⟨r.b, p⟩), (20, .row (some 9) .str o true)] ((l.length - k.toNat) * 1000 + (o.length - j.toNat)))) else none
set_option maxRecDepth 200000 in
theorem vc_spec_l20Different (r : Reader) : (keeps Try.prog G_spec_l20Different (an_spec_l20Different (r, ())) (Try.f48.body.getD .skip) Try.f48.results.toList C_spec_l20Different (r, ())) = (((((0 : Int) ≤ (Reader.p r)) ∧
 (((Reader.p r) ≤ (100000000 : Int)) ∧
 ((0 : Int) ≤ (1000000 : Int)))) ∧
 (∀ (x_1 : (List ByteArray)), (∀ (x_2 : Int), ((((Reader.p r) ≤ x_2) ∧
 ((x_2 ≤ ((Reader.p r) + (30 : Int))) ∧
 (((List.length x_1) ≤ (7 : Nat)) ∧
 (((0 : Int) ≤ (0 : Int)) →
 ((@List.all ByteArray x_1 nameB) = true))))) →
 ((∃ (x_3 : (List ByteArray)), (∃ (x_4 : (List ByteArray)), (∃ (x_5 : Int), (∃ (x_6 : Int), ((@Eq (List ByteArray) x_1 x_4) ∧
 (((0 : Int) = x_5) ∧
 ((@Eq (List Int) (Reader.b r) (Reader.b r)) ∧
 ((x_2 = x_6) ∧
 ((@Eq (List ByteArray) ([] : List ByteArray) x_3) ∧
 ((((Reader.p r) ≤ x_6) ∧
 ((x_6 ≤ ((Reader.p r) + (30 : Int))) ∧
 (((List.length x_4) ≤ (7 : Nat)) ∧
 (((@List.all ByteArray x_4 nameB) = true) ∧
 (((0 : Int) ≤ x_5) ∧
 ((x_5 ≤ (@Nat.cast Int _ (List.length x_4))) ∧
 (((@Nat.cast Int _ (List.length x_3)) ≤ x_5) ∧
 (nmsB x_3)))))))) ∧
 True)))))))))) ∧
 (∀ (x_7 : (List ByteArray)), (∀ (x_8 : (List ByteArray)), (∀ (x_9 : Int), (∀ (x_10 : Int), ((((Reader.p r) ≤ x_10) ∧
 ((x_10 ≤ ((Reader.p r) + (30 : Int))) ∧
 (((List.length x_8) ≤ (7 : Nat)) ∧
 (((@List.all ByteArray x_8 nameB) = true) ∧
 (((0 : Int) ≤ x_9) ∧
 ((x_9 ≤ (@Nat.cast Int _ (List.length x_8))) ∧
 (((@Nat.cast Int _ (List.length x_7)) ≤ x_9) ∧
 (nmsB x_7)))))))) →
 (((List.length x_8) ≤ (9223372036854775807 : Nat)) →
 ((((decide (x_9 < (@Nat.cast Int _ (List.length x_8)))) = true) →
 (∃ (x_11 : (List ByteArray)), (∃ (x_12 : (List ByteArray)), (∃ (x_13 : Int), (∃ (x_14 : Int), (∃ (x_15 : Int), (∃ (x_16 : Bool), ((@Eq (List ByteArray) x_8 x_12) ∧
 ((x_9 = x_13) ∧
 ((true = x_16) ∧
 (((0 : Int) = x_15) ∧
 ((@Eq (List Int) (Reader.b r) (Reader.b r)) ∧
 ((x_10 = x_14) ∧
 ((@Eq (List ByteArray) x_7 x_11) ∧
 ((((Reader.p r) ≤ x_14) ∧
 ((x_14 ≤ ((Reader.p r) + (30 : Int))) ∧
 (((List.length x_12) ≤ (7 : Nat)) ∧
 (((@List.all ByteArray x_12 nameB) = true) ∧
 (((0 : Int) ≤ x_13) ∧
 ((x_13 < (@Nat.cast Int _ (List.length x_12))) ∧
 (((@Nat.cast Int _ (List.length x_11)) ≤ x_13) ∧
 ((nmsB x_11) ∧
 (((0 : Int) ≤ x_15) ∧
 ((x_15 ≤ (@Nat.cast Int _ (List.length x_11))) ∧
 (∀ (s_17 : ByteArray), ((@Eq (Option ByteArray) (x_12)[(Int.toNat x_13)]? (some s_17)) →
 ((x_16 = true) →
 (allNe (List.take (Int.toNat x_15) x_11) s_17)))))))))))))) ∧
 (∀ (x_18 : (List ByteArray)), (∀ (x_19 : (List ByteArray)), (∀ (x_20 : Int), (∀ (x_21 : Int), (∀ (x_22 : Int), (∀ (x_23 : Bool), ((((Reader.p r) ≤ x_21) ∧
 ((x_21 ≤ ((Reader.p r) + (30 : Int))) ∧
 (((List.length x_19) ≤ (7 : Nat)) ∧
 (((@List.all ByteArray x_19 nameB) = true) ∧
 (((0 : Int) ≤ x_20) ∧
 ((x_20 < (@Nat.cast Int _ (List.length x_19))) ∧
 (((@Nat.cast Int _ (List.length x_18)) ≤ x_20) ∧
 ((nmsB x_18) ∧
 (((0 : Int) ≤ x_22) ∧
 ((x_22 ≤ (@Nat.cast Int _ (List.length x_18))) ∧
 (∀ (s_24 : ByteArray), ((@Eq (Option ByteArray) (x_19)[(Int.toNat x_20)]? (some s_24)) →
 ((x_23 = true) →
 (allNe (List.take (Int.toNat x_22) x_18) s_24)))))))))))))) →
 ((((((List.length x_19) - (Int.toNat x_20)) * (1000 : Nat)) + ((List.length x_18) - (Int.toNat x_22))) ≤ ((((List.length x_12) - (Int.toNat x_13)) * (1000 : Nat)) + ((List.length x_11) - (Int.toNat x_15)))) →
 (((List.length x_18) ≤ (9223372036854775807 : Nat)) →
 ((((decide (x_22 < (@Nat.cast Int _ (List.length x_18)))) = true) →
 (((x_23 = true) →
 ((((0 : Int) ≤ x_22) ∧
 (x_22 < (@Nat.cast Int _ (List.length x_18)))) ∧
 (∀ (x_25 : ByteArray), ((@Eq (Option ByteArray) (x_18)[(Int.toNat x_22)]? (some x_25)) →
 ((Ok Ty.str x_25) →
 ((((0 : Int) ≤ x_20) ∧
 (x_20 < (@Nat.cast Int _ (List.length x_19)))) ∧
 (∀ (x_26 : ByteArray), ((@Eq (Option ByteArray) (x_19)[(Int.toNat x_20)]? (some x_26)) →
 ((Ok Ty.str x_26) →
 ((((- (9223372036854775808 : Int)) ≤ (x_22 + (1 : Int))) ∧
 ((x_22 + (1 : Int)) ≤ (9223372036854775807 : Int))) ∧
 (∃ (x_27 : (List ByteArray)), (∃ (x_28 : (List ByteArray)), (∃ (x_29 : Int), (∃ (x_30 : Int), (∃ (x_31 : Int), (∃ (x_32 : Bool), ((@Eq (List ByteArray) x_19 x_28) ∧
 ((x_20 = x_29) ∧
 (((decide (x_25 ≠ x_26)) = x_32) ∧
 (((x_22 + (1 : Int)) = x_31) ∧
 ((@Eq (List Int) (Reader.b r) (Reader.b r)) ∧
 ((x_21 = x_30) ∧
 ((@Eq (List ByteArray) x_18 x_27) ∧
 ((((Reader.p r) ≤ x_30) ∧
 ((x_30 ≤ ((Reader.p r) + (30 : Int))) ∧
 (((List.length x_28) ≤ (7 : Nat)) ∧
 (((@List.all ByteArray x_28 nameB) = true) ∧
 (((0 : Int) ≤ x_29) ∧
 ((x_29 < (@Nat.cast Int _ (List.length x_28))) ∧
 (((@Nat.cast Int _ (List.length x_27)) ≤ x_29) ∧
 ((nmsB x_27) ∧
 (((0 : Int) ≤ x_31) ∧
 ((x_31 ≤ (@Nat.cast Int _ (List.length x_27))) ∧
 (∀ (s_33 : ByteArray), ((@Eq (Option ByteArray) (x_28)[(Int.toNat x_29)]? (some s_33)) →
 ((x_32 = true) →
 (allNe (List.take (Int.toNat x_31) x_27) s_33)))))))))))))) ∧
 (((((List.length x_28) - (Int.toNat x_29)) * (1000 : Nat)) + ((List.length x_27) - (Int.toNat x_31))) < ((((List.length x_19) - (Int.toNat x_20)) * (1000 : Nat)) + ((List.length x_18) - (Int.toNat x_22)))))))))))))))))))))))))))) ∧
 ((x_23 = false) →
 ((((- (9223372036854775808 : Int)) ≤ (x_22 + (1 : Int))) ∧
 ((x_22 + (1 : Int)) ≤ (9223372036854775807 : Int))) ∧
 (∃ (x_34 : (List ByteArray)), (∃ (x_35 : (List ByteArray)), (∃ (x_36 : Int), (∃ (x_37 : Int), (∃ (x_38 : Int), (∃ (x_39 : Bool), ((@Eq (List ByteArray) x_19 x_35) ∧
 ((x_20 = x_36) ∧
 ((false = x_39) ∧
 (((x_22 + (1 : Int)) = x_38) ∧
 ((@Eq (List Int) (Reader.b r) (Reader.b r)) ∧
 ((x_21 = x_37) ∧
 ((@Eq (List ByteArray) x_18 x_34) ∧
 ((((Reader.p r) ≤ x_37) ∧
 ((x_37 ≤ ((Reader.p r) + (30 : Int))) ∧
 (((List.length x_35) ≤ (7 : Nat)) ∧
 (((@List.all ByteArray x_35 nameB) = true) ∧
 (((0 : Int) ≤ x_36) ∧
 ((x_36 < (@Nat.cast Int _ (List.length x_35))) ∧
 (((@Nat.cast Int _ (List.length x_34)) ≤ x_36) ∧
 ((nmsB x_34) ∧
 (((0 : Int) ≤ x_38) ∧
 ((x_38 ≤ (@Nat.cast Int _ (List.length x_34))) ∧
 (∀ (s_40 : ByteArray), ((@Eq (Option ByteArray) (x_35)[(Int.toNat x_36)]? (some s_40)) →
 ((x_39 = true) →
 (allNe (List.take (Int.toNat x_38) x_34) s_40)))))))))))))) ∧
 (((((List.length x_35) - (Int.toNat x_36)) * (1000 : Nat)) + ((List.length x_34) - (Int.toNat x_38))) < ((((List.length x_19) - (Int.toNat x_20)) * (1000 : Nat)) + ((List.length x_18) - (Int.toNat x_22)))))))))))))))))))))) ∧
 (((decide (x_22 < (@Nat.cast Int _ (List.length x_18)))) = false) →
 (((x_23 = true) →
 ((((0 : Int) ≤ x_20) ∧
 (x_20 < (@Nat.cast Int _ (List.length x_19)))) ∧
 (∀ (x_41 : ByteArray), ((@Eq (Option ByteArray) (x_19)[(Int.toNat x_20)]? (some x_41)) →
 ((Ok Ty.str x_41) →
 ((((((List.length x_18) + (List.length [x_41])) * (16 : Nat)) ≤ (140737488355328 : Nat)) ∧
 (((List.length x_18) + (List.length [x_41])) ≤ (1000000000000 : Nat))) ∧
 ((((- (9223372036854775808 : Int)) ≤ (x_20 + (1 : Int))) ∧
 ((x_20 + (1 : Int)) ≤ (9223372036854775807 : Int))) ∧
 (∃ (x_42 : (List ByteArray)), (∃ (x_43 : (List ByteArray)), (∃ (x_44 : Int), (∃ (x_45 : Int), ((@Eq (List ByteArray) x_19 x_43) ∧
 (((x_20 + (1 : Int)) = x_44) ∧
 ((@Eq (List Int) (Reader.b r) (Reader.b r)) ∧
 ((x_21 = x_45) ∧
 ((@Eq (List ByteArray) (x_18 ++ [x_41]) x_42) ∧
 ((((Reader.p r) ≤ x_45) ∧
 ((x_45 ≤ ((Reader.p r) + (30 : Int))) ∧
 (((List.length x_43) ≤ (7 : Nat)) ∧
 (((@List.all ByteArray x_43 nameB) = true) ∧
 (((0 : Int) ≤ x_44) ∧
 ((x_44 ≤ (@Nat.cast Int _ (List.length x_43))) ∧
 (((@Nat.cast Int _ (List.length x_42)) ≤ x_44) ∧
 (nmsB x_42)))))))) ∧
 (((List.length x_43) - (Int.toNat x_44)) < ((List.length x_8) - (Int.toNat x_9)))))))))))))))))))) ∧
 ((x_23 = false) →
 ((((- (9223372036854775808 : Int)) ≤ (x_20 + (1 : Int))) ∧
 ((x_20 + (1 : Int)) ≤ (9223372036854775807 : Int))) ∧
 (∃ (x_46 : (List ByteArray)), (∃ (x_47 : (List ByteArray)), (∃ (x_48 : Int), (∃ (x_49 : Int), ((@Eq (List ByteArray) x_19 x_47) ∧
 (((x_20 + (1 : Int)) = x_48) ∧
 ((@Eq (List Int) (Reader.b r) (Reader.b r)) ∧
 ((x_21 = x_49) ∧
 ((@Eq (List ByteArray) x_18 x_46) ∧
 ((((Reader.p r) ≤ x_49) ∧
 ((x_49 ≤ ((Reader.p r) + (30 : Int))) ∧
 (((List.length x_47) ≤ (7 : Nat)) ∧
 (((@List.all ByteArray x_47 nameB) = true) ∧
 (((0 : Int) ≤ x_48) ∧
 ((x_48 ≤ (@Nat.cast Int _ (List.length x_47))) ∧
 (((@Nat.cast Int _ (List.length x_46)) ≤ x_48) ∧
 (nmsB x_46)))))))) ∧
 (((List.length x_47) - (Int.toNat x_48)) < ((List.length x_8) - (Int.toNat x_9)))))))))))))))))))))))))))))))))))))))))) ∧
 (((decide (x_9 < (@Nat.cast Int _ (List.length x_8)))) = false) →
 (∃ (x_50 : (List ByteArray)), (∃ (x_51 : Int), (((@Eq (List ByteArray) x_7 x_50) ∧
 ((@Eq (List Int) (Reader.b r) (Reader.b r)) ∧
 ((x_10 = x_51) ∧
 True))) ∧
 (((Reader.p r) ≤ x_51) ∧
 ((x_51 ≤ ((Reader.p r) + (30 : Int))) ∧
 (((List.length x_50) ≤ (7 : Nat)) ∧
 (nmsB x_50))))))))))))))))))))) := by kernel_rfl
theorem det_spec_l20Different : C_spec_l20Different.det = true → ∀ x, (C_spec_l20Different.out x).Det := fun h => absurd h Bool.false_ne_true
set_option maxRecDepth 200000 in
set_option maxHeartbeats 1000000 in
theorem ok_spec_l20Different : ConOK Try.prog 48 C_spec_l20Different := by
  refine con_mk (wr := false) (ty := tyL [(3, .i), (5, .u), (4, .bool), (9, .str), (80, .int .u64), (26, .st .hash), (24, .list .i), (22, .list .str), (38, .list .u), (33, .st .hash)]) (l := [(62, C_spec_l20Names)]) ⟨⟨ok_spec_l20Names, det_spec_l20Names⟩, trivial⟩ Try.checked.mixed (fn := Try.f48) (body := Try.f48.body.getD .skip) Try.func48 rfl (by decide) (by kernel_rfl) rfl an_spec_l20Different fun x ho hx => ?_
  obtain ⟨r, ⟨⟩⟩ := x
  refine Keeps.of (vc_spec_l20Different r) ?_
  revert r ho hx
  show ∀ (r : Reader), _
  intro r ho hx
  dsimp only [C_spec_l20Different, okPTL, okPT, Ok, Ty.cells, SN.cells, OkL, OkC, okI, ci, cb, cs, cl] at ho
  dsimp only [C_spec_l20Different, vc, v1, decB, SR.pre] at hx
  have hb := pickF_bd r.b
  have hn := @ne_next
  have ha := @nmsB_app
  have hg := @all_get ByteArray nameB
  simp only [decide_eq_true_eq, decide_eq_false_iff_not, Bool.not_eq_true', Bool.not_eq_false', and_true, true_and, and_assoc, Int.toNat_natCast, exists_eq_left', exists_eq_left, exists_and_left, Int.not_lt, Int.not_le, Bool.false_eq_true, false_implies, implies_true, forall_const, List.length_append, List.length_cons, List.length_nil, Int.sub_add_cancel, Int.add_sub_cancel, and_imp, ex_img, ex_mem, ex_fix, ex_pat, ex_hash, ex_obj, ex_sym, ex_sect, ex_member, ex_given, eta_hash, eta_obj, eta_sym, eta_sect, eta_member, eta_given, eta_img, eta_mem, forall_eq', forall_eq]; (repeat' first | apply And.intro | (intro x hq _; replace hq := List.mem_of_getElem? hq; simp only [List.mem_cons, List.not_mem_nil, or_false] at hq) | intro _); all_goals (try omega)
  all_goals (try grind [nmsB_nil, allNe_zero])
def C_spec_DrawMakeHash : Con := { ps := [.ro (.list .u)], out := fun x => let c : List (Int) := x.1; .all (List ByteArray) fun l => .all Int fun b => .giv (l.length ≤ 10) (.ret { val := .tup [(false, [.c (cl .str l)]), (false, [.c (ci b)])] }), det := false }
def G_spec_DrawMakeHash : Cfg := mkG (tyL [(3, .i), (5, .u), (4, .bool), (9, .str), (80, .int .u64), (26, .st .hash), (24, .list .i), (22, .list .str), (38, .list .u), (33, .st .hash)]) [(47, C_spec_l20Open), (48, C_spec_l20Different), (49, C_spec_l20Rd_odd), (50, C_spec_l20Rd_pick)] false
def an_spec_DrawMakeHash : PTL C_spec_DrawMakeHash.ps → Nat → Option Ann := fun _ _ => none
set_option maxRecDepth 200000 in
theorem vc_spec_DrawMakeHash (c : List (Int)) : (keeps Try.prog G_spec_DrawMakeHash (an_spec_DrawMakeHash (c, ())) (Try.f22.body.getD .skip) Try.f22.results.toList C_spec_DrawMakeHash (c, ())) = (((((0 : Int) ≤ (0 : Int)) ∧
 ((0 : Int) ≤ (50000000 : Int))) ∧
 (∀ (x_1 : (List ByteArray)), (∀ (x_2 : Int), ((((0 : Int) ≤ x_2) ∧
 ((x_2 ≤ ((0 : Int) + (30 : Int))) ∧
 (((List.length x_1) ≤ (7 : Nat)) ∧
 (nmsB x_1)))) →
 ((((0 : Int) ≤ x_2) ∧
 ((x_2 ≤ (1000000000000 : Int)) ∧
 ((9 : Int) ≤ (1000000 : Int)))) ∧
 (∀ (x_3 : Bool), (∀ (x_4 : Int), (((x_2 ≤ x_4) ∧
 ((x_4 ≤ (x_2 + (1 : Int))) ∧
 (((9 : Int) ≤ (0 : Int)) →
 (x_3 = false)))) →
 (((x_3 = true) →
 ((((0 : Int) ≤ x_4) ∧
 (x_4 ≤ (1000000000000 : Int))) ∧
 ((((0 : Int) ≤ (pickF (List.take (2000 : Nat) c) x_4 (3 : Int))) ∧
 ((pickF (List.take (2000 : Nat) c) x_4 (3 : Int)) < (@Nat.cast Int _ (3 : Nat)))) ∧
 (∀ (x_5 : ByteArray), ((@Eq (Option ByteArray) ([(ByteArray.mk (@Array.mk UInt8 [(65 : UInt8)])), (ByteArray.mk (@Array.mk UInt8 [(115 : UInt8), (97 : UInt8), (109 : UInt8), (101 : UInt8)])), (ByteArray.mk (@Array.mk UInt8 [(115 : UInt8), (97 : UInt8), (109 : UInt8), (101 : UInt8)]))])[(Int.toNat (pickF (List.take (2000 : Nat) c) x_4 (3 : Int)))]? (some x_5)) →
 ((Ok Ty.str x_5) →
 ((((((List.length x_1) + (List.length [x_5, (ByteArray.mk (@Array.mk UInt8 [(115 : UInt8), (97 : UInt8), (109 : UInt8), (101 : UInt8)]))])) * (16 : Nat)) ≤ (140737488355328 : Nat)) ∧
 (((List.length x_1) + (List.length [x_5, (ByteArray.mk (@Array.mk UInt8 [(115 : UInt8), (97 : UInt8), (109 : UInt8), (101 : UInt8)]))])) ≤ (1000000000000 : Nat))) ∧
 ((((0 : Int) ≤ (x_4 + (1 : Int))) ∧
 ((x_4 + (1 : Int)) ≤ (1000000000000 : Int))) ∧
 ((((- (9223372036854775808 : Int)) ≤ ((1 : Int) + (pickF (List.take (2000 : Nat) c) (x_4 + (1 : Int)) (8 : Int)))) ∧
 (((1 : Int) + (pickF (List.take (2000 : Nat) c) (x_4 + (1 : Int)) (8 : Int))) ≤ (9223372036854775807 : Int))) ∧
 ((((0 : Int) ≤ ((x_4 + (1 : Int)) + (1 : Int))) ∧
 (((x_4 + (1 : Int)) + (1 : Int)) ≤ (1000000000000 : Int))) ∧
 ((((0 : Int) ≤ (pickF (List.take (2000 : Nat) c) ((x_4 + (1 : Int)) + (1 : Int)) (7 : Int))) ∧
 ((pickF (List.take (2000 : Nat) c) ((x_4 + (1 : Int)) + (1 : Int)) (7 : Int)) < (@Nat.cast Int _ (7 : Nat)))) ∧
 (∀ (x_6 : Int), ((@Eq (Option Int) ([(0 : Int), (0 : Int), (0 : Int), (0 : Int), (0 : Int), (1 : Int), (2 : Int)])[(Int.toNat (pickF (List.take (2000 : Nat) c) ((x_4 + (1 : Int)) + (1 : Int)) (7 : Int)))]? (some x_6)) →
 ((Ok (Ty.int IntKind.i64) x_6) →
 ((((0 : Int) ≤ x_6) ∧
 (x_6 < (@Nat.cast Int _ (List.length [((1 : Int) + (pickF (List.take (2000 : Nat) c) (x_4 + (1 : Int)) (8 : Int))), (0 : Int), (9 : Int)])))) ∧
 (∀ (x_7 : Int), ((@Eq (Option Int) ([((1 : Int) + (pickF (List.take (2000 : Nat) c) (x_4 + (1 : Int)) (8 : Int))), (0 : Int), (9 : Int)])[(Int.toNat x_6)]? (some x_7)) →
 ((Ok (Ty.int IntKind.i64) x_7) →
 (∃ (x_8 : (List ByteArray)), (∃ (x_9 : Int), (((@Eq (List ByteArray) (x_1 ++ [x_5, (ByteArray.mk (@Array.mk UInt8 [(115 : UInt8), (97 : UInt8), (109 : UInt8), (101 : UInt8)]))]) x_8) ∧
 ((x_7 = x_9) ∧
 True)) ∧
 ((List.length x_8) ≤ (10 : Nat))))))))))))))))))))))) ∧
 ((x_3 = false) →
 ((((0 : Int) ≤ x_4) ∧
 (x_4 ≤ (1000000000000 : Int))) ∧
 ((((- (9223372036854775808 : Int)) ≤ ((1 : Int) + (pickF (List.take (2000 : Nat) c) x_4 (8 : Int)))) ∧
 (((1 : Int) + (pickF (List.take (2000 : Nat) c) x_4 (8 : Int))) ≤ (9223372036854775807 : Int))) ∧
 ((((0 : Int) ≤ (x_4 + (1 : Int))) ∧
 ((x_4 + (1 : Int)) ≤ (1000000000000 : Int))) ∧
 ((((0 : Int) ≤ (pickF (List.take (2000 : Nat) c) (x_4 + (1 : Int)) (7 : Int))) ∧
 ((pickF (List.take (2000 : Nat) c) (x_4 + (1 : Int)) (7 : Int)) < (@Nat.cast Int _ (7 : Nat)))) ∧
 (∀ (x_10 : Int), ((@Eq (Option Int) ([(0 : Int), (0 : Int), (0 : Int), (0 : Int), (0 : Int), (1 : Int), (2 : Int)])[(Int.toNat (pickF (List.take (2000 : Nat) c) (x_4 + (1 : Int)) (7 : Int)))]? (some x_10)) →
 ((Ok (Ty.int IntKind.i64) x_10) →
 ((((0 : Int) ≤ x_10) ∧
 (x_10 < (@Nat.cast Int _ (List.length [((1 : Int) + (pickF (List.take (2000 : Nat) c) x_4 (8 : Int))), (0 : Int), (9 : Int)])))) ∧
 (∀ (x_11 : Int), ((@Eq (Option Int) ([((1 : Int) + (pickF (List.take (2000 : Nat) c) x_4 (8 : Int))), (0 : Int), (9 : Int)])[(Int.toNat x_10)]? (some x_11)) →
 ((Ok (Ty.int IntKind.i64) x_11) →
 (∃ (x_12 : (List ByteArray)), (∃ (x_13 : Int), (((@Eq (List ByteArray) x_1 x_12) ∧
 ((x_11 = x_13) ∧
 True)) ∧
 ((List.length x_12) ≤ (10 : Nat))))))))))))))))))))))))))) := by kernel_rfl
theorem det_spec_DrawMakeHash : C_spec_DrawMakeHash.det = true → ∀ x, (C_spec_DrawMakeHash.out x).Det := fun h => absurd h Bool.false_ne_true
set_option maxRecDepth 200000 in
set_option maxHeartbeats 1000000 in
theorem ok_spec_DrawMakeHash : ConOK Try.prog 22 C_spec_DrawMakeHash := by
  refine con_mk (wr := false) (ty := tyL [(3, .i), (5, .u), (4, .bool), (9, .str), (80, .int .u64), (26, .st .hash), (24, .list .i), (22, .list .str), (38, .list .u), (33, .st .hash)]) (l := [(47, C_spec_l20Open), (48, C_spec_l20Different), (49, C_spec_l20Rd_odd), (50, C_spec_l20Rd_pick)]) ⟨⟨ok_spec_l20Open, det_spec_l20Open⟩, ⟨⟨ok_spec_l20Different, det_spec_l20Different⟩, ⟨⟨ok_spec_l20Rd_odd, det_spec_l20Rd_odd⟩, ⟨⟨ok_spec_l20Rd_pick, det_spec_l20Rd_pick⟩, trivial⟩⟩⟩⟩ Try.checked.mixed (fn := Try.f22) (body := Try.f22.body.getD .skip) Try.func22 rfl (by decide) (by kernel_rfl) rfl an_spec_DrawMakeHash fun x ho hx => ?_
  obtain ⟨c, ⟨⟩⟩ := x
  refine Keeps.of (vc_spec_DrawMakeHash c) ?_
  revert c ho hx
  show ∀ (c : List (Int)), _
  intro c ho hx
  dsimp only [C_spec_DrawMakeHash, okPTL, okPT, Ok, Ty.cells, SN.cells, OkL, OkC, okI, ci, cb, cs, cl] at ho
  dsimp only [C_spec_DrawMakeHash, vc, v1, decB, SR.pre] at hx
  have hb := pickF_bd (List.take 2000 c)
  simp only [decide_eq_true_eq, decide_eq_false_iff_not, Bool.not_eq_true', Bool.not_eq_false', and_true, true_and, and_assoc, Int.toNat_natCast, exists_eq_left', exists_eq_left, exists_and_left, Int.not_lt, Int.not_le, Bool.false_eq_true, false_implies, implies_true, forall_const, List.length_append, List.length_cons, List.length_nil, Int.sub_add_cancel, Int.add_sub_cancel, and_imp, ex_img, ex_mem, ex_fix, ex_pat, ex_hash, ex_obj, ex_sym, ex_sect, ex_member, ex_given, eta_hash, eta_obj, eta_sym, eta_sect, eta_member, eta_given, eta_img, eta_mem, forall_eq', forall_eq]; (repeat' first | apply And.intro | (intro x hq _; replace hq := List.mem_of_getElem? hq; simp only [List.mem_cons, List.not_mem_nil, or_false] at hq) | intro _); all_goals (try omega)
  all_goals grind
def C_spec_l20Hash : Con := { ps := [.box (.ty (.st .reader)), .ro .i], out := fun x => let r : Reader := x.1; let n : Int := x.2.1; .req (0 ≤ r.p ∧ r.p ≤ 10000000 ∧ n ≤ 1000000) (.all HashT fun t => .all Int fun p => .giv (r.p ≤ p ∧ p ≤ r.p + 50 ∧ t.names.length ≤ 10 ∧ t.first.length ≤ 10 ∧ t.next.length ≤ 10) (rdS .hash t p)), det := false }
def G_spec_l20Hash : Cfg := mkG (tyL [(3, .i), (5, .u), (4, .bool), (9, .str), (80, .int .u64), (26, .st .hash), (24, .list .i), (22, .list .str), (38, .list .u), (33, .st .hash)]) [(48, C_spec_l20Different), (50, C_spec_l20Rd_pick), (10, C_spec_MakeHash), (49, C_spec_l20Rd_odd)] false
def an_spec_l20Hash : PTL C_spec_l20Hash.ps → Nat → Option Ann := fun _ _ => none
set_option maxRecDepth 200000 in
theorem vc_spec_l20Hash (r : Reader) (n : Int) : (keeps Try.prog G_spec_l20Hash (an_spec_l20Hash (r, n, ())) (Try.f54.body.getD .skip) Try.f54.results.toList C_spec_l20Hash (r, n, ())) = (((((0 : Int) ≤ (Reader.p r)) ∧
 ((Reader.p r) ≤ (50000000 : Int))) ∧
 (∀ (x_1 : (List ByteArray)), (∀ (x_2 : Int), ((((Reader.p r) ≤ x_2) ∧
 ((x_2 ≤ ((Reader.p r) + (30 : Int))) ∧
 (((List.length x_1) ≤ (7 : Nat)) ∧
 (nmsB x_1)))) →
 ((((0 : Int) ≤ x_2) ∧
 (x_2 ≤ (1000000000000 : Int))) ∧
 ((((- (9223372036854775808 : Int)) ≤ ((1 : Int) + (pickF (Reader.b r) x_2 (8 : Int)))) ∧
 (((1 : Int) + (pickF (Reader.b r) x_2 (8 : Int))) ≤ (9223372036854775807 : Int))) ∧
 ((((0 : Int) ≤ (x_2 + (1 : Int))) ∧
 (((x_2 + (1 : Int)) ≤ (1000000000000 : Int)) ∧
 (n ≤ (1000000 : Int)))) ∧
 (∀ (x_3 : Bool), (∀ (x_4 : Int), ((((x_2 + (1 : Int)) ≤ x_4) ∧
 ((x_4 ≤ ((x_2 + (1 : Int)) + (1 : Int))) ∧
 ((n ≤ (0 : Int)) →
 (x_3 = false)))) →
 (((x_3 = true) →
 ((((0 : Int) ≤ x_4) ∧
 (x_4 ≤ (1000000000000 : Int))) ∧
 ((((decide ((pickF (Reader.b r) x_4 (4 : Int)) = (0 : Int))) = true) →
 ((((((List.length (HashT.first (mkHash x_1 ((1 : Int) + (pickF (Reader.b r) x_2 (8 : Int)))))) + (1 : Nat)) * (8 : Nat)) ≤ (140737488355328 : Nat)) ∧
 (((List.length (HashT.first (mkHash x_1 ((1 : Int) + (pickF (Reader.b r) x_2 (8 : Int)))))) + (1 : Nat)) ≤ (1000000000000 : Nat))) ∧
 (∃ (x_5 : HashT), (∃ (x_6 : Int), (((@Eq (List ByteArray) (HashT.names (mkHash x_1 ((1 : Int) + (pickF (Reader.b r) x_2 (8 : Int))))) (HashT.names x_5)) ∧
 ((@Eq (List Int) ((HashT.first (mkHash x_1 ((1 : Int) + (pickF (Reader.b r) x_2 (8 : Int))))) ++ [(- (1 : Int))]) (HashT.first x_5)) ∧
 ((@Eq (List Int) (HashT.next (mkHash x_1 ((1 : Int) + (pickF (Reader.b r) x_2 (8 : Int))))) (HashT.next x_5)) ∧
 ((@Eq (List Int) (Reader.b r) (Reader.b r)) ∧
 (((x_4 + (1 : Int)) = x_6) ∧
 True))))) ∧
 (((Reader.p r) ≤ x_6) ∧
 ((x_6 ≤ ((Reader.p r) + (50 : Int))) ∧
 (((List.length (HashT.names x_5)) ≤ (10 : Nat)) ∧
 (((List.length (HashT.first x_5)) ≤ (10 : Nat)) ∧
 ((List.length (HashT.next x_5)) ≤ (10 : Nat))))))))))) ∧
 (((decide ((pickF (Reader.b r) x_4 (4 : Int)) = (0 : Int))) = false) →
 ((((decide ((pickF (Reader.b r) x_4 (4 : Int)) = (1 : Int))) = true) →
 ((((((List.length (HashT.next (mkHash x_1 ((1 : Int) + (pickF (Reader.b r) x_2 (8 : Int)))))) + (1 : Nat)) * (8 : Nat)) ≤ (140737488355328 : Nat)) ∧
 (((List.length (HashT.next (mkHash x_1 ((1 : Int) + (pickF (Reader.b r) x_2 (8 : Int)))))) + (1 : Nat)) ≤ (1000000000000 : Nat))) ∧
 (∃ (x_7 : HashT), (∃ (x_8 : Int), (((@Eq (List ByteArray) (HashT.names (mkHash x_1 ((1 : Int) + (pickF (Reader.b r) x_2 (8 : Int))))) (HashT.names x_7)) ∧
 ((@Eq (List Int) (HashT.first (mkHash x_1 ((1 : Int) + (pickF (Reader.b r) x_2 (8 : Int))))) (HashT.first x_7)) ∧
 ((@Eq (List Int) ((HashT.next (mkHash x_1 ((1 : Int) + (pickF (Reader.b r) x_2 (8 : Int))))) ++ [(0 : Int)]) (HashT.next x_7)) ∧
 ((@Eq (List Int) (Reader.b r) (Reader.b r)) ∧
 (((x_4 + (1 : Int)) = x_8) ∧
 True))))) ∧
 (((Reader.p r) ≤ x_8) ∧
 ((x_8 ≤ ((Reader.p r) + (50 : Int))) ∧
 (((List.length (HashT.names x_7)) ≤ (10 : Nat)) ∧
 (((List.length (HashT.first x_7)) ≤ (10 : Nat)) ∧
 ((List.length (HashT.next x_7)) ≤ (10 : Nat))))))))))) ∧
 (((decide ((pickF (Reader.b r) x_4 (4 : Int)) = (1 : Int))) = false) →
 ((((decide ((pickF (Reader.b r) x_4 (4 : Int)) = (2 : Int))) = true) →
 (((List.length (HashT.first (mkHash x_1 ((1 : Int) + (pickF (Reader.b r) x_2 (8 : Int)))))) ≤ (9223372036854775807 : Nat)) →
 ((((0 : Int) ≤ (x_4 + (1 : Int))) ∧
 ((x_4 + (1 : Int)) ≤ (1000000000000 : Int))) ∧
 ((((0 : Int) ≤ (pickF (Reader.b r) (x_4 + (1 : Int)) (@Nat.cast Int _ (List.length (HashT.first (mkHash x_1 ((1 : Int) + (pickF (Reader.b r) x_2 (8 : Int))))))))) ∧
 ((pickF (Reader.b r) (x_4 + (1 : Int)) (@Nat.cast Int _ (List.length (HashT.first (mkHash x_1 ((1 : Int) + (pickF (Reader.b r) x_2 (8 : Int)))))))) < (@Nat.cast Int _ (List.length (HashT.first (mkHash x_1 ((1 : Int) + (pickF (Reader.b r) x_2 (8 : Int))))))))) ∧
 (∀ (x_9 : Int), ((@Eq (Option Int) ((HashT.first (mkHash x_1 ((1 : Int) + (pickF (Reader.b r) x_2 (8 : Int))))))[(Int.toNat (pickF (Reader.b r) (x_4 + (1 : Int)) (@Nat.cast Int _ (List.length (HashT.first (mkHash x_1 ((1 : Int) + (pickF (Reader.b r) x_2 (8 : Int)))))))))]? (some x_9)) →
 (∃ (x_10 : HashT), (∃ (x_11 : Int), (((@Eq (List ByteArray) (HashT.names (mkHash x_1 ((1 : Int) + (pickF (Reader.b r) x_2 (8 : Int))))) (HashT.names x_10)) ∧
 ((@Eq (List Int) (List.set (HashT.first (mkHash x_1 ((1 : Int) + (pickF (Reader.b r) x_2 (8 : Int))))) (Int.toNat (pickF (Reader.b r) (x_4 + (1 : Int)) (@Nat.cast Int _ (List.length (HashT.first (mkHash x_1 ((1 : Int) + (pickF (Reader.b r) x_2 (8 : Int))))))))) (0 : Int)) (HashT.first x_10)) ∧
 ((@Eq (List Int) (HashT.next (mkHash x_1 ((1 : Int) + (pickF (Reader.b r) x_2 (8 : Int))))) (HashT.next x_10)) ∧
 ((@Eq (List Int) (Reader.b r) (Reader.b r)) ∧
 ((((x_4 + (1 : Int)) + (1 : Int)) = x_11) ∧
 True))))) ∧
 (((Reader.p r) ≤ x_11) ∧
 ((x_11 ≤ ((Reader.p r) + (50 : Int))) ∧
 (((List.length (HashT.names x_10)) ≤ (10 : Nat)) ∧
 (((List.length (HashT.first x_10)) ≤ (10 : Nat)) ∧
 ((List.length (HashT.next x_10)) ≤ (10 : Nat))))))))))))))) ∧
 (((decide ((pickF (Reader.b r) x_4 (4 : Int)) = (2 : Int))) = false) →
 (∃ (x_12 : HashT), (∃ (x_13 : Int), (((@Eq (List ByteArray) ([] : List ByteArray) (HashT.names x_12)) ∧
 ((@Eq (List Int) ([] : List Int) (HashT.first x_12)) ∧
 ((@Eq (List Int) ([] : List Int) (HashT.next x_12)) ∧
 ((@Eq (List Int) (Reader.b r) (Reader.b r)) ∧
 (((x_4 + (1 : Int)) = x_13) ∧
 True))))) ∧
 (((Reader.p r) ≤ x_13) ∧
 ((x_13 ≤ ((Reader.p r) + (50 : Int))) ∧
 (((List.length (HashT.names x_12)) ≤ (10 : Nat)) ∧
 (((List.length (HashT.first x_12)) ≤ (10 : Nat)) ∧
 ((List.length (HashT.next x_12)) ≤ (10 : Nat))))))))))))))))) ∧
 ((x_3 = false) →
 (∃ (x_14 : HashT), (∃ (x_15 : Int), (((@Eq (List ByteArray) (HashT.names (mkHash x_1 ((1 : Int) + (pickF (Reader.b r) x_2 (8 : Int))))) (HashT.names x_14)) ∧
 ((@Eq (List Int) (HashT.first (mkHash x_1 ((1 : Int) + (pickF (Reader.b r) x_2 (8 : Int))))) (HashT.first x_14)) ∧
 ((@Eq (List Int) (HashT.next (mkHash x_1 ((1 : Int) + (pickF (Reader.b r) x_2 (8 : Int))))) (HashT.next x_14)) ∧
 ((@Eq (List Int) (Reader.b r) (Reader.b r)) ∧
 ((x_4 = x_15) ∧
 True))))) ∧
 (((Reader.p r) ≤ x_15) ∧
 ((x_15 ≤ ((Reader.p r) + (50 : Int))) ∧
 (((List.length (HashT.names x_14)) ≤ (10 : Nat)) ∧
 (((List.length (HashT.first x_14)) ≤ (10 : Nat)) ∧
 ((List.length (HashT.next x_14)) ≤ (10 : Nat)))))))))))))))))))))) := by kernel_rfl
theorem det_spec_l20Hash : C_spec_l20Hash.det = true → ∀ x, (C_spec_l20Hash.out x).Det := fun h => absurd h Bool.false_ne_true
set_option maxRecDepth 200000 in
set_option maxHeartbeats 1000000 in
theorem ok_spec_l20Hash : ConOK Try.prog 54 C_spec_l20Hash := by
  refine con_mk (wr := false) (ty := tyL [(3, .i), (5, .u), (4, .bool), (9, .str), (80, .int .u64), (26, .st .hash), (24, .list .i), (22, .list .str), (38, .list .u), (33, .st .hash)]) (l := [(48, C_spec_l20Different), (50, C_spec_l20Rd_pick), (10, C_spec_MakeHash), (49, C_spec_l20Rd_odd)]) ⟨⟨ok_spec_l20Different, det_spec_l20Different⟩, ⟨⟨ok_spec_l20Rd_pick, det_spec_l20Rd_pick⟩, ⟨⟨ok_spec_MakeHash, det_spec_MakeHash⟩, ⟨⟨ok_spec_l20Rd_odd, det_spec_l20Rd_odd⟩, trivial⟩⟩⟩⟩ Try.checked.mixed (fn := Try.f54) (body := Try.f54.body.getD .skip) Try.func54 rfl (by decide) (by kernel_rfl) rfl an_spec_l20Hash fun x ho hx => ?_
  obtain ⟨r, n, ⟨⟩⟩ := x
  refine Keeps.of (vc_spec_l20Hash r n) ?_
  revert r n ho hx
  show ∀ (r : Reader) (n : Int), _
  intro r n ho hx
  dsimp only [C_spec_l20Hash, okPTL, okPT, Ok, Ty.cells, SN.cells, OkL, OkC, okI, ci, cb, cs, cl] at ho
  dsimp only [C_spec_l20Hash, vc, v1, decB, SR.pre] at hx
  have hb := pickF_bd r.b
  have hz := @nms_hash
  simp only [decide_eq_true_eq, decide_eq_false_iff_not, Bool.not_eq_true', Bool.not_eq_false', and_true, true_and, and_assoc, Int.toNat_natCast, exists_eq_left', exists_eq_left, exists_and_left, Int.not_lt, Int.not_le, Bool.false_eq_true, false_implies, implies_true, forall_const, List.length_append, List.length_cons, List.length_nil, Int.sub_add_cancel, Int.add_sub_cancel, and_imp, ex_img, ex_mem, ex_fix, ex_pat, ex_hash, ex_obj, ex_sym, ex_sect, ex_member, ex_given, eta_hash, eta_obj, eta_sym, eta_sect, eta_member, eta_given, eta_img, eta_mem, forall_eq', forall_eq]; (repeat' first | apply And.intro | (intro x hq _; replace hq := List.mem_of_getElem? hq; simp only [List.mem_cons, List.not_mem_nil, or_false] at hq) | intro _); all_goals (try omega)
  all_goals grind
def C_spec_DrawHashValid : Con := { ps := [.ro (.list .u)], out := fun x => let c : List (Int) := x.1; .all HashT fun t => .giv (t.names.length ≤ 10 ∧ t.first.length ≤ 10 ∧ t.next.length ≤ 10) (.ret { val := .agg ((SN.cells .hash t).map .c) }), det := false }
def G_spec_DrawHashValid : Cfg := mkG (tyL [(3, .i), (5, .u), (4, .bool), (9, .str), (80, .int .u64), (26, .st .hash), (24, .list .i), (22, .list .str), (38, .list .u), (33, .st .hash)]) [(47, C_spec_l20Open), (54, C_spec_l20Hash)] false
def an_spec_DrawHashValid : PTL C_spec_DrawHashValid.ps → Nat → Option Ann := fun _ _ => none
set_option maxRecDepth 200000 in
theorem vc_spec_DrawHashValid (c : List (Int)) : (keeps Try.prog G_spec_DrawHashValid (an_spec_DrawHashValid (c, ())) (Try.f26.body.getD .skip) Try.f26.results.toList C_spec_DrawHashValid (c, ())) = (((((0 : Int) ≤ (0 : Int)) ∧
 (((0 : Int) ≤ (10000000 : Int)) ∧
 ((2 : Int) ≤ (1000000 : Int)))) ∧
 (∀ (x_1 : HashT), (∀ (x_2 : Int), ((((0 : Int) ≤ x_2) ∧
 ((x_2 ≤ ((0 : Int) + (50 : Int))) ∧
 (((List.length (HashT.names x_1)) ≤ (10 : Nat)) ∧
 (((List.length (HashT.first x_1)) ≤ (10 : Nat)) ∧
 ((List.length (HashT.next x_1)) ≤ (10 : Nat)))))) →
 (∃ (x_3 : HashT), (((@Eq (List ByteArray) (HashT.names x_1) (HashT.names x_3)) ∧
 ((@Eq (List Int) (HashT.first x_1) (HashT.first x_3)) ∧
 ((@Eq (List Int) (HashT.next x_1) (HashT.next x_3)) ∧
 True))) ∧
 (((List.length (HashT.names x_3)) ≤ (10 : Nat)) ∧
 (((List.length (HashT.first x_3)) ≤ (10 : Nat)) ∧
 ((List.length (HashT.next x_3)) ≤ (10 : Nat))))))))))) := by kernel_rfl
theorem det_spec_DrawHashValid : C_spec_DrawHashValid.det = true → ∀ x, (C_spec_DrawHashValid.out x).Det := fun h => absurd h Bool.false_ne_true
set_option maxRecDepth 200000 in
set_option maxHeartbeats 1000000 in
theorem ok_spec_DrawHashValid : ConOK Try.prog 26 C_spec_DrawHashValid := by
  refine con_mk (wr := false) (ty := tyL [(3, .i), (5, .u), (4, .bool), (9, .str), (80, .int .u64), (26, .st .hash), (24, .list .i), (22, .list .str), (38, .list .u), (33, .st .hash)]) (l := [(47, C_spec_l20Open), (54, C_spec_l20Hash)]) ⟨⟨ok_spec_l20Open, det_spec_l20Open⟩, ⟨⟨ok_spec_l20Hash, det_spec_l20Hash⟩, trivial⟩⟩ Try.checked.mixed (fn := Try.f26) (body := Try.f26.body.getD .skip) Try.func26 rfl (by decide) (by kernel_rfl) rfl an_spec_DrawHashValid fun x ho hx => ?_
  obtain ⟨c, ⟨⟩⟩ := x
  refine Keeps.of (vc_spec_DrawHashValid c) ?_
  revert c ho hx
  show ∀ (c : List (Int)), _
  intro c ho hx
  dsimp only [C_spec_DrawHashValid, okPTL, okPT, Ok, Ty.cells, SN.cells, OkL, OkC, okI, ci, cb, cs, cl] at ho
  dsimp only [C_spec_DrawHashValid, vc, v1, decB, SR.pre] at hx
  simp only [decide_eq_true_eq, decide_eq_false_iff_not, Bool.not_eq_true', Bool.not_eq_false', and_true, true_and, and_assoc, Int.toNat_natCast, exists_eq_left', exists_eq_left, exists_and_left, Int.not_lt, Int.not_le, Bool.false_eq_true, false_implies, implies_true, forall_const, List.length_append, List.length_cons, List.length_nil, Int.sub_add_cancel, Int.add_sub_cancel, and_imp, ex_img, ex_mem, ex_fix, ex_pat, ex_hash, ex_obj, ex_sym, ex_sect, ex_member, ex_given, eta_hash, eta_obj, eta_sym, eta_sect, eta_member, eta_given, eta_img, eta_mem, forall_eq', forall_eq]; (repeat' first | apply And.intro | (intro x hq _; replace hq := List.mem_of_getElem? hq; simp only [List.mem_cons, List.not_mem_nil, or_false] at hq) | intro _); all_goals (try omega)
  all_goals grind
def C_spec_DrawFindHash : Con := { ps := [.ro (.list .u)], out := fun x => let c : List (Int) := x.1; .all HashT fun t => .all ByteArray fun s => .giv (t.names.length ≤ 10 ∧ t.first.length ≤ 10 ∧ t.next.length ≤ 10) (.ret { val := .tup [(true, (SN.cells .hash t).map .c), (false, [.c (cs s)])] }), det := false }
def G_spec_DrawFindHash : Cfg := mkG (tyL [(3, .i), (5, .u), (4, .bool), (9, .str), (80, .int .u64), (26, .st .hash), (24, .list .i), (22, .list .str), (38, .list .u), (33, .st .hash)]) [(47, C_spec_l20Open), (54, C_spec_l20Hash), (55, C_spec_l20Name)] false
def an_spec_DrawFindHash : PTL C_spec_DrawFindHash.ps → Nat → Option Ann := fun _ _ => none
set_option maxRecDepth 200000 in
theorem vc_spec_DrawFindHash (c : List (Int)) : (keeps Try.prog G_spec_DrawFindHash (an_spec_DrawFindHash (c, ())) (Try.f27.body.getD .skip) Try.f27.results.toList C_spec_DrawFindHash (c, ())) = (((((0 : Int) ≤ (0 : Int)) ∧
 (((0 : Int) ≤ (10000000 : Int)) ∧
 ((9 : Int) ≤ (1000000 : Int)))) ∧
 (∀ (x_1 : HashT), (∀ (x_2 : Int), ((((0 : Int) ≤ x_2) ∧
 ((x_2 ≤ ((0 : Int) + (50 : Int))) ∧
 (((List.length (HashT.names x_1)) ≤ (10 : Nat)) ∧
 (((List.length (HashT.first x_1)) ≤ (10 : Nat)) ∧
 ((List.length (HashT.next x_1)) ≤ (10 : Nat)))))) →
 ((((0 : Int) ≤ x_2) ∧
 ((x_2 ≤ (1000000000 : Int)) ∧
 ((9 : Int) ≤ (1000000 : Int)))) ∧
 (∀ (x_3 : ByteArray), (∀ (x_4 : Int), (((x_2 ≤ x_4) ∧
 ((x_4 ≤ (x_2 + (3 : Int))) ∧
 (((ByteArray.size x_3) ≤ (16 : Nat)) ∧
 (((9 : Int) ≤ (0 : Int)) →
 ((nameB x_3) = true))))) →
 (∃ (x_5 : HashT), (∃ (x_6 : ByteArray), (((@Eq (List ByteArray) (HashT.names x_1) (HashT.names x_5)) ∧
 ((@Eq (List Int) (HashT.first x_1) (HashT.first x_5)) ∧
 ((@Eq (List Int) (HashT.next x_1) (HashT.next x_5)) ∧
 ((@Eq ByteArray x_3 x_6) ∧
 True)))) ∧
 (((List.length (HashT.names x_5)) ≤ (10 : Nat)) ∧
 (((List.length (HashT.first x_5)) ≤ (10 : Nat)) ∧
 ((List.length (HashT.next x_5)) ≤ (10 : Nat)))))))))))))))) := by kernel_rfl
theorem det_spec_DrawFindHash : C_spec_DrawFindHash.det = true → ∀ x, (C_spec_DrawFindHash.out x).Det := fun h => absurd h Bool.false_ne_true
set_option maxRecDepth 200000 in
set_option maxHeartbeats 1000000 in
theorem ok_spec_DrawFindHash : ConOK Try.prog 27 C_spec_DrawFindHash := by
  refine con_mk (wr := false) (ty := tyL [(3, .i), (5, .u), (4, .bool), (9, .str), (80, .int .u64), (26, .st .hash), (24, .list .i), (22, .list .str), (38, .list .u), (33, .st .hash)]) (l := [(47, C_spec_l20Open), (54, C_spec_l20Hash), (55, C_spec_l20Name)]) ⟨⟨ok_spec_l20Open, det_spec_l20Open⟩, ⟨⟨ok_spec_l20Hash, det_spec_l20Hash⟩, ⟨⟨ok_spec_l20Name, det_spec_l20Name⟩, trivial⟩⟩⟩ Try.checked.mixed (fn := Try.f27) (body := Try.f27.body.getD .skip) Try.func27 rfl (by decide) (by kernel_rfl) rfl an_spec_DrawFindHash fun x ho hx => ?_
  obtain ⟨c, ⟨⟩⟩ := x
  refine Keeps.of (vc_spec_DrawFindHash c) ?_
  revert c ho hx
  show ∀ (c : List (Int)), _
  intro c ho hx
  dsimp only [C_spec_DrawFindHash, okPTL, okPT, Ok, Ty.cells, SN.cells, OkL, OkC, okI, ci, cb, cs, cl] at ho
  dsimp only [C_spec_DrawFindHash, vc, v1, decB, SR.pre] at hx
  simp only [decide_eq_true_eq, decide_eq_false_iff_not, Bool.not_eq_true', Bool.not_eq_false', and_true, true_and, and_assoc, Int.toNat_natCast, exists_eq_left', exists_eq_left, exists_and_left, Int.not_lt, Int.not_le, Bool.false_eq_true, false_implies, implies_true, forall_const, List.length_append, List.length_cons, List.length_nil, Int.sub_add_cancel, Int.add_sub_cancel, and_imp, ex_img, ex_mem, ex_fix, ex_pat, ex_hash, ex_obj, ex_sym, ex_sect, ex_member, ex_given, eta_hash, eta_obj, eta_sym, eta_sect, eta_member, eta_given, eta_img, eta_mem, forall_eq', forall_eq]; (repeat' first | apply And.intro | (intro x hq _; replace hq := List.mem_of_getElem? hq; simp only [List.mem_cons, List.not_mem_nil, or_false] at hq) | intro _); all_goals (try omega)
  all_goals grind
end Go.Proofs.Ytjlgnbdncbcnjaa
