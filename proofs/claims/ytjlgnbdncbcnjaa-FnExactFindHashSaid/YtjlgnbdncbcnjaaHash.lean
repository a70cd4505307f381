/- Names, hash tables: both packages. -/
import Derived.Test.YtjlgnbdncbcnjaaHashE
import Derived.Test.YtjlgnbdncbcnjaaNamS
import Derived.Test.YtjlgnbdncbcnjaaLib
set_option linter.unusedVariables false
set_option linter.unusedSimpArgs false
namespace Go.Proofs.Ytjlgnbdncbcnjaa
open Go Go.RowKit


def repF (e : Int) (n i : Nat) : List Int := List.replicate i e ++ List.replicate (n - i) 0
theorem repF_len {e : Int} {n i : Nat} (h : i ≤ n) : (repF e n i).length = n := by simp [repF]; omega
theorem repF_end {e : Int} {n : Nat} : repF e n n = List.replicate n e := by simp [repF]
theorem repF_take {e : Int} {n i : Nat} : (repF e n i).take i = List.replicate i e := by simp [repF]
theorem repF_round {e : Int} {n i : Nat} (h : i ≤ n) : (repF e n i).take i ++ ((((repF e n i).drop 0).take (i - 0)).take ((repF e n i).length - i)) ++ (repF e n i).drop (i + min (((repF e n i).drop 0).take (i - 0)).length ((repF e n i).length - i)) = repF e n (i + min i (n - i)) := by
  have hl : ((repF e n i).take i).length = i := by simp [repF_take]
  simp only [List.drop_zero, Nat.sub_zero, hl, repF_len h]
  rw [repF_take, List.take_replicate]
  have hd : (repF e n i).drop (i + min i (n - i)) = List.replicate (n - i - min i (n - i)) 0 := by
    unfold repF
    rw [List.drop_append, List.drop_replicate, List.drop_replicate, List.length_replicate]
    have : i - (i + min i (n - i)) = 0 := by omega
    rw [this, List.replicate_zero, List.nil_append]
    congr 1
    omega
  rw [hd]
  unfold repF
  rw [List.replicate_append_replicate]
  congr 2
  · omega
  · omega
theorem repF_start {a : List Int} {n : Int} (ha : a.length = 1) (hn : 0 ≤ n) : a.take (repl ((a.length : Int) * n) (0 : Int)).length ++ (repl ((a.length : Int) * n) (0 : Int)).drop (min a.length (repl ((a.length : Int) * n) (0 : Int)).length) = repF (a.getD 0 0) n.toNat (min 1 n.toNat) := by
  match a, ha with
  | [x], _ =>
    have e : ((([x] : List Int).length : Nat) : Int) * n = n := by simp
    rw [e]
    simp only [repl, List.length_replicate, List.length_cons, List.length_nil, Nat.zero_add, List.drop_replicate, repF, List.getD_cons_zero]
    rcases Nat.eq_zero_or_pos n.toNat with h0 | h0
    · simp [h0]
    · rw [List.take_of_length_le (by simp only [List.length_cons, List.length_nil]; omega), Nat.min_eq_left h0]
      rfl
theorem repl_len1 {a : List Int} {n : Int} (ha : a.length = 1) : (repl ((a.length : Int) * n) (0 : Int)).length = n.toNat ∧ (a.length : Int) * n = n := by
  rw [ha]
  simp [repl]
def decH (n : Nat) (k : Int) : Nat := if k < 0 then 0 else n - k.toNat
def badIx : List ByteArray → Int → Int
  | [], _ => -1
  | s :: l, k => if nameB s = true then badIx l (k + 1) else k
theorem badIx_all : ∀ {l : List ByteArray} {k : Int}, 0 ≤ k → (l.all nameB = true ↔ badIx l k < 0) := by
  intro l
  induction l with
  | nil => intro k _; simp [badIx]
  | cons s l ih =>
    intro k hk
    by_cases h : nameB s = true
    · simp only [badIx, List.all_cons, h, if_true, Bool.true_and]
      exact ih (by omega)
    · simp only [badIx, List.all_cons, Bool.and_eq_true, if_neg h]
      constructor
      · intro h'; exact absurd h'.1 h
      · intro h'; omega
theorem take_nodup {l : List ByteArray} {k : Nat} {s : ByteArray} (h : l[k]? = some s) (hn : (l.take k).Nodup) (hs : ∀ x ∈ l.take k, x ≠ s) : (l.take (k + 1)).Nodup := by
  rw [take_snoc h, List.nodup_append]
  exact ⟨hn, by simp, fun a ha b hb => by simp only [List.mem_singleton] at hb; rw [hb]; exact hs a ha⟩
theorem not_nodup {l : List ByteArray} {j k : Nat} {s : ByteArray} (hjk : j < k) (hj : l[j]? = some s) (hk : l[k]? = some s) : ¬ l.Nodup := by
  intro h
  have h1 := lt_of_some hj
  have h2 := lt_of_some hk
  have e1 : l[j] = s := by simpa [List.getElem?_eq_getElem h1] using hj
  have e2 : l[k] = s := by simpa [List.getElem?_eq_getElem h2] using hk
  have := List.pairwise_iff_getElem.1 h j k h1 h2 hjk
  exact this (by rw [e1, e2])
theorem take_all_next {l : List ByteArray} {k : Nat} {s : ByteArray} (h : l[k]? = some s) (ha : (l.take k).all nameB = true) (hs : nameB s = true) : (l.take (k + 1)).all nameB = true := by
  rw [take_snoc h, List.all_append, ha]; simp [hs]
theorem not_all {l : List ByteArray} {k : Nat} {s : ByteArray} (h : l[k]? = some s) (hs : nameB s = false) : l.all nameB = false := by
  cases hc : l.all nameB with
  | false => rfl
  | true => rw [List.all_eq_true.1 hc s (List.mem_of_getElem? h)] at hs; cases hs
theorem and_small {x : Int} (h : 0 ≤ x) (h' : x ≤ 4294967295) : bitI .and .u64 x 4294967295 = x := by
  have e : bitI .and .u64 x 4294967295 = IntKind.wrap .u64 ((BitVec.ofInt 64 x &&& BitVec.ofInt 64 4294967295).toNat : Int) := rfl
  have e2 : (BitVec.ofInt 64 x &&& BitVec.ofInt 64 4294967295).toNat = x.toNat := by
    rw [BitVec.toNat_and, BitVec.toNat_ofInt, BitVec.toNat_ofInt]
    have : ((4294967295 : Int) % ((2 ^ 64 : Nat) : Int)).toNat = 2 ^ 32 - 1 := by decide
    rw [this, Nat.and_two_pow_sub_one_eq_mod]
    have : (x % ((2 ^ 64 : Nat) : Int)).toNat = x.toNat := by omega
    rw [this]
    omega
  rw [e, e2]
  simp [IntKind.wrap, IntKind.signed, IntKind.bits]
  omega
theorem nn_step {l : List ByteArray} {j k : Int} {u v s x : ByteArray} (h : ∀ s, l[k.toNat]? = some s → ∀ x ∈ l.take j.toNat, x ≠ s) (hj0 : 0 ≤ j) (hj : l[j.toNat]? = some u) (hk : l[k.toNat]? = some v) (hne : ¬ u = v) (hs : l[k.toNat]? = some s) (hm : x ∈ l.take (j + 1).toNat) : x ≠ s := by
  rw [toNat_succ hj0, take_snoc hj] at hm
  rcases List.mem_append.1 hm with hm | hm
  · exact h s hs x hm
  · simp only [List.mem_singleton] at hm
    rw [hk] at hs
    injection hs with hs
    rw [hm, ← hs]; exact hne
theorem nd_step {l : List ByteArray} {j k : Int} {s : ByteArray} (h : ∀ s, l[k.toNat]? = some s → ∀ x ∈ l.take j.toNat, x ≠ s) (hj : k ≤ j) (hj' : j ≤ k) (hk : 0 ≤ k) (hs : l[k.toNat]? = some s) (hp : (l.take k.toNat).Nodup) : (l.take (k + 1).toNat).Nodup := by
  have e : j = k := by omega
  subst e
  rw [show (j + 1).toNat = j.toNat + 1 by omega]
  exact take_nodup hs hp (h s hs)
theorem decH_lt {n : Nat} {k m : Int} (hkm : 0 ≤ m → k < m) (h : 0 ≤ k) (hn : k < n) : decH n m < decH n k := by
  unfold decH
  rw [if_neg (show ¬ k < 0 by omega)]
  split
  · omega
  · have := hkm (by omega); omega
def C_impl_areNames_1 : Con := { ps := [.ro .str], out := fun x => let s : ByteArray := x.1; vc .bool (!nameB s), det := true }
def G_impl_areNames_1 : Cfg := mkG (tyL [(3, .i), (5, .u), (4, .bool), (9, .str), (80, .int .u64), (26, .st .hash), (24, .list .i), (22, .list .str), (38, .list .u), (33, .st .hash)]) [(58, C_impl_NameValid)] false
def an_impl_areNames_1 : PTL C_impl_areNames_1.ps → Nat → Option Ann := fun _ _ => none
set_option maxRecDepth 200000 in
theorem vc_impl_areNames_1 (s : ByteArray) : (keeps Try.prog G_impl_areNames_1 (an_impl_areNames_1 (s, ())) (Try.f57.body.getD .skip) Try.f57.results.toList C_impl_areNames_1 (s, ())) = ((((Bool.not (nameB s)) = (Bool.not (nameB s))) ∧
 True)) := by kernel_rfl
theorem det_impl_areNames_1 : C_impl_areNames_1.det = true → ∀ x, (C_impl_areNames_1.out x).Det := fun _ x => by simp only [C_impl_areNames_1]; repeat (first | exact Det.ret _ | exact Det.vc' | apply Det.req | apply Det.giv | apply Det.fork | apply Det.bif' | intro _)
set_option maxRecDepth 200000 in
set_option maxHeartbeats 1000000 in
theorem ok_impl_areNames_1 : ConOK Try.prog 57 C_impl_areNames_1 := by
  refine con_mk (wr := false) (ty := tyL [(3, .i), (5, .u), (4, .bool), (9, .str), (80, .int .u64), (26, .st .hash), (24, .list .i), (22, .list .str), (38, .list .u), (33, .st .hash)]) (l := [(58, C_impl_NameValid)]) ⟨⟨ok_impl_NameValid, det_impl_NameValid⟩, trivial⟩ Try.checked.mixed (fn := Try.f57) (body := Try.f57.body.getD .skip) Try.func57 rfl (by decide) (by kernel_rfl) rfl an_impl_areNames_1 fun x ho hx => ?_
  obtain ⟨s, ⟨⟩⟩ := x
  refine Keeps.of (vc_impl_areNames_1 s) ?_
  revert s ho hx
  show ∀ (s : ByteArray), _
  intro s ho hx
  dsimp only [C_impl_areNames_1, okPTL, okPT, Ok, Ty.cells, SN.cells, OkL, OkC, okI, ci, cb, cs, cl] at ho
  dsimp only [C_impl_areNames_1, vc, v1, decB, SR.pre] at hx
  simp only [decide_eq_true_eq, decide_eq_false_iff_not, Bool.not_eq_true', Bool.not_eq_false', and_true, true_and, Int.toNat_natCast, exists_eq_left', exists_eq_left, exists_and_left, Int.not_lt, Int.not_le, Bool.false_eq_true, false_implies, implies_true, forall_const, List.length_append, List.length_cons, List.length_nil, Int.sub_add_cancel, Int.add_sub_cancel, and_imp, get_set_iff, forall_eq', forall_eq, List.set_set, mkd_get, mkd_len, List.length_set, Option.some.injEq]; (repeat' first | intro _ | apply And.intro); all_goals (try omega)
def C_slices_IndexFunc_string_string : Con := { ps := [.ro (.list .str), .fn 57 []], out := fun x => let l : List (ByteArray) := x.1; let f : (Unit) := x.2.1; vc .i (badIx l 0), det := true }
def G_slices_IndexFunc_string_string : Cfg := mkG (tyL [(3, .i), (5, .u), (4, .bool), (9, .str), (80, .int .u64), (26, .st .hash), (24, .list .i), (22, .list .str), (38, .list .u), (33, .st .hash)]) [(57, C_impl_areNames_1)] false
def an_slices_IndexFunc_string_string : PTL C_slices_IndexFunc_string_string.ps → Nat → Option Ann := fun x kk_ => let l : List (ByteArray) := x.1; let f : (Unit) := x.2.1; if kk_ = 2 then some (.all (Int) fun i => .giv (0 ≤ i ∧ i ≤ l.length ∧ badIx l 0 = badIx (l.drop i.toNat) i) (.mk [(1, .one (.fn 57 [])), (8, ai i), (0, al .str l), (7, ai (List.length l))] [] ((l.length - i.toNat)))) else none
set_option maxRecDepth 200000 in
theorem vc_slices_IndexFunc_string_string (l : List (ByteArray)) (f : (Unit)) : (keeps Try.prog G_slices_IndexFunc_string_string (an_slices_IndexFunc_string_string (l, f, ())) (Try.f65.body.getD .skip) Try.f65.results.toList C_slices_IndexFunc_string_string (l, f, ())) = ((((List.length l) ≤ (9223372036854775807 : Nat)) →
 ((∃ (x_1 : Int), (((0 : Int) = x_1) ∧
 ((@Eq (List ByteArray) l l) ∧
 (((@Nat.cast Int _ (List.length l)) = (@Nat.cast Int _ (List.length l))) ∧
 ((((0 : Int) ≤ x_1) ∧
 ((x_1 ≤ (@Nat.cast Int _ (List.length l))) ∧
 ((badIx l (0 : Int)) = (badIx (List.drop (Int.toNat x_1) l) x_1)))) ∧
 True))))) ∧
 (∀ (x_2 : Int), ((((0 : Int) ≤ x_2) ∧
 ((x_2 ≤ (@Nat.cast Int _ (List.length l))) ∧
 ((badIx l (0 : Int)) = (badIx (List.drop (Int.toNat x_2) l) x_2)))) →
 ((((decide (x_2 < (@Nat.cast Int _ (List.length l)))) = true) →
 ((((0 : Int) ≤ x_2) ∧
 (x_2 < (@Nat.cast Int _ (List.length l)))) ∧
 (∀ (x_3 : ByteArray), ((@Eq (Option ByteArray) (l)[(Int.toNat x_2)]? (some x_3)) →
 ((Ok Ty.str x_3) →
 ((((Bool.not (nameB x_3)) = true) →
 ((x_2 = (badIx l (0 : Int))) ∧
 True)) ∧
 (((Bool.not (nameB x_3)) = false) →
 ((((- (9223372036854775808 : Int)) ≤ (x_2 + (1 : Int))) ∧
 ((x_2 + (1 : Int)) ≤ (9223372036854775807 : Int))) ∧
 (∃ (x_4 : Int), (((x_2 + (1 : Int)) = x_4) ∧
 ((@Eq (List ByteArray) l l) ∧
 (((@Nat.cast Int _ (List.length l)) = (@Nat.cast Int _ (List.length l))) ∧
 ((((0 : Int) ≤ x_4) ∧
 ((x_4 ≤ (@Nat.cast Int _ (List.length l))) ∧
 ((badIx l (0 : Int)) = (badIx (List.drop (Int.toNat x_4) l) x_4)))) ∧
 (((List.length l) - (Int.toNat x_4)) < ((List.length l) - (Int.toNat x_2)))))))))))))))) ∧
 (((decide (x_2 < (@Nat.cast Int _ (List.length l)))) = false) →
 (((- (1 : Int)) = (badIx l (0 : Int))) ∧
 True)))))))) := by kernel_rfl
theorem det_slices_IndexFunc_string_string : C_slices_IndexFunc_string_string.det = true → ∀ x, (C_slices_IndexFunc_string_string.out x).Det := fun _ x => by simp only [C_slices_IndexFunc_string_string]; repeat (first | exact Det.ret _ | exact Det.vc' | apply Det.req | apply Det.giv | apply Det.fork | apply Det.bif' | intro _)
set_option maxRecDepth 200000 in
set_option maxHeartbeats 1000000 in
theorem ok_slices_IndexFunc_string_string : ConOK Try.prog 65 C_slices_IndexFunc_string_string := by
  refine con_mk (wr := false) (ty := tyL [(3, .i), (5, .u), (4, .bool), (9, .str), (80, .int .u64), (26, .st .hash), (24, .list .i), (22, .list .str), (38, .list .u), (33, .st .hash)]) (l := [(57, C_impl_areNames_1)]) ⟨⟨ok_impl_areNames_1, det_impl_areNames_1⟩, trivial⟩ Try.checked.mixed (fn := Try.f65) (body := Try.f65.body.getD .skip) Try.func65 rfl (by decide) (by kernel_rfl) rfl an_slices_IndexFunc_string_string fun x ho hx => ?_
  obtain ⟨l, f, ⟨⟩⟩ := x
  refine Keeps.of (vc_slices_IndexFunc_string_string l f) ?_
  revert l f ho hx
  show ∀ (l : List (ByteArray)) (f : (Unit)), _
  intro l f ho hx
  dsimp only [C_slices_IndexFunc_string_string, okPTL, okPT, Ok, Ty.cells, SN.cells, OkL, OkC, okI, ci, cb, cs, cl] at ho
  dsimp only [C_slices_IndexFunc_string_string, vc, v1, decB, SR.pre] at hx
  simp only [decide_eq_true_eq, decide_eq_false_iff_not, Bool.not_eq_true', Bool.not_eq_false', and_true, true_and, Int.toNat_natCast, exists_eq_left', exists_eq_left, exists_and_left, Int.not_lt, Int.not_le, Bool.false_eq_true, false_implies, implies_true, forall_const, List.length_append, List.length_cons, List.length_nil, Int.sub_add_cancel, Int.add_sub_cancel, and_imp, get_set_iff, forall_eq', forall_eq, List.set_set, mkd_get, mkd_len, List.length_set, Option.some.injEq]; (repeat' first | intro _ | apply And.intro); all_goals (try omega); all_goals (try have hdr := drop_get' (l := l) (by assumption) (by assumption)); all_goals grind [badIx, drop_end]
def C_slices_ContainsFunc_string_string : Con := { ps := [.ro (.list .str), .fn 57 []], out := fun x => let l : List (ByteArray) := x.1; let f : (Unit) := x.2.1; vc .bool (decide (0 ≤ badIx l 0)), det := true }
def G_slices_ContainsFunc_string_string : Cfg := mkG (tyL [(3, .i), (5, .u), (4, .bool), (9, .str), (80, .int .u64), (26, .st .hash), (24, .list .i), (22, .list .str), (38, .list .u), (33, .st .hash)]) [(65, C_slices_IndexFunc_string_string)] false
def an_slices_ContainsFunc_string_string : PTL C_slices_ContainsFunc_string_string.ps → Nat → Option Ann := fun _ _ => none
set_option maxRecDepth 200000 in
theorem vc_slices_ContainsFunc_string_string (l : List (ByteArray)) (f : (Unit)) : (keeps Try.prog G_slices_ContainsFunc_string_string (an_slices_ContainsFunc_string_string (l, f, ())) (Try.f56.body.getD .skip) Try.f56.results.toList C_slices_ContainsFunc_string_string (l, f, ())) = ((((decide ((0 : Int) ≤ (badIx l (0 : Int)))) = (decide ((0 : Int) ≤ (badIx l (0 : Int))))) ∧
 True)) := by kernel_rfl
theorem det_slices_ContainsFunc_string_string : C_slices_ContainsFunc_string_string.det = true → ∀ x, (C_slices_ContainsFunc_string_string.out x).Det := fun _ x => by simp only [C_slices_ContainsFunc_string_string]; repeat (first | exact Det.ret _ | exact Det.vc' | apply Det.req | apply Det.giv | apply Det.fork | apply Det.bif' | intro _)
set_option maxRecDepth 200000 in
set_option maxHeartbeats 1000000 in
theorem ok_slices_ContainsFunc_string_string : ConOK Try.prog 56 C_slices_ContainsFunc_string_string := by
  refine con_mk (wr := false) (ty := tyL [(3, .i), (5, .u), (4, .bool), (9, .str), (80, .int .u64), (26, .st .hash), (24, .list .i), (22, .list .str), (38, .list .u), (33, .st .hash)]) (l := [(65, C_slices_IndexFunc_string_string)]) ⟨⟨ok_slices_IndexFunc_string_string, det_slices_IndexFunc_string_string⟩, trivial⟩ Try.checked.mixed (fn := Try.f56) (body := Try.f56.body.getD .skip) Try.func56 rfl (by decide) (by kernel_rfl) rfl an_slices_ContainsFunc_string_string fun x ho hx => ?_
  obtain ⟨l, f, ⟨⟩⟩ := x
  refine Keeps.of (vc_slices_ContainsFunc_string_string l f) ?_
  revert l f ho hx
  show ∀ (l : List (ByteArray)) (f : (Unit)), _
  intro l f ho hx
  dsimp only [C_slices_ContainsFunc_string_string, okPTL, okPT, Ok, Ty.cells, SN.cells, OkL, OkC, okI, ci, cb, cs, cl] at ho
  dsimp only [C_slices_ContainsFunc_string_string, vc, v1, decB, SR.pre] at hx
  simp only [decide_eq_true_eq, decide_eq_false_iff_not, Bool.not_eq_true', Bool.not_eq_false', and_true, true_and, Int.toNat_natCast, exists_eq_left', exists_eq_left, exists_and_left, Int.not_lt, Int.not_le, Bool.false_eq_true, false_implies, implies_true, forall_const, List.length_append, List.length_cons, List.length_nil, Int.sub_add_cancel, Int.add_sub_cancel, and_imp, get_set_iff, forall_eq', forall_eq, List.set_set, mkd_get, mkd_len, List.length_set, Option.some.injEq]; (repeat' first | intro _ | apply And.intro); all_goals (try omega)
def C_impl_areNames : Con := { ps := [.ro (.list .str)], out := fun x => let l : List (ByteArray) := x.1; vc .bool (decide ((l.length : Int) ≤ 40) && l.all nameB), det := true }
def G_impl_areNames : Cfg := mkG (tyL [(3, .i), (5, .u), (4, .bool), (9, .str), (80, .int .u64), (26, .st .hash), (24, .list .i), (22, .list .str), (38, .list .u), (33, .st .hash)]) [(56, C_slices_ContainsFunc_string_string)] false
def an_impl_areNames : PTL C_impl_areNames.ps → Nat → Option Ann := fun _ _ => none
set_option maxRecDepth 200000 in
theorem vc_impl_areNames (l : List (ByteArray)) : (keeps Try.prog G_impl_areNames (an_impl_areNames (l, ())) (Try.f32.body.getD .skip) Try.f32.results.toList C_impl_areNames (l, ())) = ((((List.length l) ≤ (9223372036854775807 : Nat)) →
 ((((decide ((@Nat.cast Int _ (List.length l)) ≤ (40 : Int))) = true) →
 (((Bool.not (decide ((0 : Int) ≤ (badIx l (0 : Int))))) = (Bool.and (decide ((@Nat.cast Int _ (List.length l)) ≤ (40 : Int))) (@List.all ByteArray l nameB))) ∧
 True)) ∧
 (((decide ((@Nat.cast Int _ (List.length l)) ≤ (40 : Int))) = false) →
 ((false = (Bool.and (decide ((@Nat.cast Int _ (List.length l)) ≤ (40 : Int))) (@List.all ByteArray l nameB))) ∧
 True))))) := by kernel_rfl
theorem det_impl_areNames : C_impl_areNames.det = true → ∀ x, (C_impl_areNames.out x).Det := fun _ x => by simp only [C_impl_areNames]; repeat (first | exact Det.ret _ | exact Det.vc' | apply Det.req | apply Det.giv | apply Det.fork | apply Det.bif' | intro _)
set_option maxRecDepth 200000 in
set_option maxHeartbeats 1000000 in
theorem ok_impl_areNames : ConOK Try.prog 32 C_impl_areNames := by
  refine con_mk (wr := false) (ty := tyL [(3, .i), (5, .u), (4, .bool), (9, .str), (80, .int .u64), (26, .st .hash), (24, .list .i), (22, .list .str), (38, .list .u), (33, .st .hash)]) (l := [(56, C_slices_ContainsFunc_string_string)]) ⟨⟨ok_slices_ContainsFunc_string_string, det_slices_ContainsFunc_string_string⟩, trivial⟩ Try.checked.mixed (fn := Try.f32) (body := Try.f32.body.getD .skip) Try.func32 rfl (by decide) (by kernel_rfl) rfl an_impl_areNames fun x ho hx => ?_
  obtain ⟨l, ⟨⟩⟩ := x
  refine Keeps.of (vc_impl_areNames l) ?_
  revert l ho hx
  show ∀ (l : List (ByteArray)), _
  intro l ho hx
  dsimp only [C_impl_areNames, okPTL, okPT, Ok, Ty.cells, SN.cells, OkL, OkC, okI, ci, cb, cs, cl] at ho
  dsimp only [C_impl_areNames, vc, v1, decB, SR.pre] at hx
  have h := badIx_all (l := l) (k := 0) (by omega)
  simp only [decide_eq_true_eq, decide_eq_false_iff_not, Bool.not_eq_true', Bool.not_eq_false', and_true, true_and, Int.toNat_natCast, exists_eq_left', exists_eq_left, exists_and_left, Int.not_lt, Int.not_le, Bool.false_eq_true, false_implies, implies_true, forall_const, List.length_append, List.length_cons, List.length_nil, Int.sub_add_cancel, Int.add_sub_cancel, and_imp, get_set_iff, forall_eq', forall_eq, List.set_set, mkd_get, mkd_len, List.length_set, Option.some.injEq]; (repeat' first | intro _ | apply And.intro); all_goals (try omega); all_goals grind
def C_math_bits_Mul64 : Con := { ps := [.ro (.int .u64), .ro (.int .u64)], out := fun x => let u : Int := x.1; let v : Int := x.2.1; .req (0 ≤ u ∧ u ≤ 65535 ∧ 0 ≤ v ∧ v ≤ 65535) (.ret { val := .tup [(false, [.c ⟨.int .u64, (0 : Int)⟩]), (false, [.c ⟨.int .u64, (u * v : Int)⟩])] }), det := true }
def G_math_bits_Mul64 : Cfg := mkG (tyL [(3, .i), (5, .u), (4, .bool), (9, .str), (80, .int .u64), (26, .st .hash), (24, .list .i), (22, .list .str), (38, .list .u), (33, .st .hash)]) [] false
def an_math_bits_Mul64 : PTL C_math_bits_Mul64.ps → Nat → Option Ann := fun _ _ => none
set_option maxRecDepth 200000 in
theorem vc_math_bits_Mul64 (u : Int) (v : Int) : (keeps Try.prog G_math_bits_Mul64 (an_math_bits_Mul64 (u, v, ())) (Try.f69.body.getD .skip) Try.f69.results.toList C_math_bits_Mul64 (u, v, ())) = (((((0 : Int) ≤ (bitI Go.BinOp.and IntKind.u64 u (4294967295 : Int))) ∧
 ((bitI Go.BinOp.and IntKind.u64 u (4294967295 : Int)) ≤ (18446744073709551615 : Int))) →
 ((((0 : Int) ≤ u) ∧
 (((0 : Int) ≤ (32 : Int)) ∧
 ((32 : Int) < (@Nat.cast Int _ (64 : Nat))))) ∧
 ((((0 : Int) ≤ (bitI Go.BinOp.and IntKind.u64 v (4294967295 : Int))) ∧
 ((bitI Go.BinOp.and IntKind.u64 v (4294967295 : Int)) ≤ (18446744073709551615 : Int))) →
 ((((0 : Int) ≤ v) ∧
 (((0 : Int) ≤ (32 : Int)) ∧
 ((32 : Int) < (@Nat.cast Int _ (64 : Nat))))) ∧
 ((((0 : Int) ≤ ((bitI Go.BinOp.and IntKind.u64 u (4294967295 : Int)) * (bitI Go.BinOp.and IntKind.u64 v (4294967295 : Int)))) ∧
 (((bitI Go.BinOp.and IntKind.u64 u (4294967295 : Int)) * (bitI Go.BinOp.and IntKind.u64 v (4294967295 : Int))) ≤ (18446744073709551615 : Int))) ∧
 ((((0 : Int) ≤ ((u / (@HPow.hPow Int Nat Int _ (2 : (Ty.den (Ty.int IntKind.u64))) (32 : Nat))) * (bitI Go.BinOp.and IntKind.u64 v (4294967295 : Int)))) ∧
 (((u / (@HPow.hPow Int Nat Int _ (2 : (Ty.den (Ty.int IntKind.u64))) (32 : Nat))) * (bitI Go.BinOp.and IntKind.u64 v (4294967295 : Int))) ≤ (18446744073709551615 : Int))) ∧
 ((((0 : Int) ≤ ((bitI Go.BinOp.and IntKind.u64 u (4294967295 : Int)) * (bitI Go.BinOp.and IntKind.u64 v (4294967295 : Int)))) ∧
 (((0 : Int) ≤ (32 : Int)) ∧
 ((32 : Int) < (@Nat.cast Int _ (64 : Nat))))) ∧
 ((((0 : Int) ≤ (((u / (@HPow.hPow Int Nat Int _ (2 : (Ty.den (Ty.int IntKind.u64))) (32 : Nat))) * (bitI Go.BinOp.and IntKind.u64 v (4294967295 : Int))) + (((bitI Go.BinOp.and IntKind.u64 u (4294967295 : Int)) * (bitI Go.BinOp.and IntKind.u64 v (4294967295 : Int))) / (@HPow.hPow Int Nat Int _ (2 : (Ty.den (Ty.int IntKind.u64))) (32 : Nat))))) ∧
 ((((u / (@HPow.hPow Int Nat Int _ (2 : (Ty.den (Ty.int IntKind.u64))) (32 : Nat))) * (bitI Go.BinOp.and IntKind.u64 v (4294967295 : Int))) + (((bitI Go.BinOp.and IntKind.u64 u (4294967295 : Int)) * (bitI Go.BinOp.and IntKind.u64 v (4294967295 : Int))) / (@HPow.hPow Int Nat Int _ (2 : (Ty.den (Ty.int IntKind.u64))) (32 : Nat)))) ≤ (18446744073709551615 : Int))) ∧
 ((((0 : Int) ≤ (bitI Go.BinOp.and IntKind.u64 (((u / (@HPow.hPow Int Nat Int _ (2 : (Ty.den (Ty.int IntKind.u64))) (32 : Nat))) * (bitI Go.BinOp.and IntKind.u64 v (4294967295 : Int))) + (((bitI Go.BinOp.and IntKind.u64 u (4294967295 : Int)) * (bitI Go.BinOp.and IntKind.u64 v (4294967295 : Int))) / (@HPow.hPow Int Nat Int _ (2 : (Ty.den (Ty.int IntKind.u64))) (32 : Nat)))) (4294967295 : Int))) ∧
 ((bitI Go.BinOp.and IntKind.u64 (((u / (@HPow.hPow Int Nat Int _ (2 : (Ty.den (Ty.int IntKind.u64))) (32 : Nat))) * (bitI Go.BinOp.and IntKind.u64 v (4294967295 : Int))) + (((bitI Go.BinOp.and IntKind.u64 u (4294967295 : Int)) * (bitI Go.BinOp.and IntKind.u64 v (4294967295 : Int))) / (@HPow.hPow Int Nat Int _ (2 : (Ty.den (Ty.int IntKind.u64))) (32 : Nat)))) (4294967295 : Int)) ≤ (18446744073709551615 : Int))) →
 ((((0 : Int) ≤ (((u / (@HPow.hPow Int Nat Int _ (2 : (Ty.den (Ty.int IntKind.u64))) (32 : Nat))) * (bitI Go.BinOp.and IntKind.u64 v (4294967295 : Int))) + (((bitI Go.BinOp.and IntKind.u64 u (4294967295 : Int)) * (bitI Go.BinOp.and IntKind.u64 v (4294967295 : Int))) / (@HPow.hPow Int Nat Int _ (2 : (Ty.den (Ty.int IntKind.u64))) (32 : Nat))))) ∧
 (((0 : Int) ≤ (32 : Int)) ∧
 ((32 : Int) < (@Nat.cast Int _ (64 : Nat))))) ∧
 ((((0 : Int) ≤ ((bitI Go.BinOp.and IntKind.u64 u (4294967295 : Int)) * (v / (@HPow.hPow Int Nat Int _ (2 : (Ty.den (Ty.int IntKind.u64))) (32 : Nat))))) ∧
 (((bitI Go.BinOp.and IntKind.u64 u (4294967295 : Int)) * (v / (@HPow.hPow Int Nat Int _ (2 : (Ty.den (Ty.int IntKind.u64))) (32 : Nat)))) ≤ (18446744073709551615 : Int))) ∧
 ((((0 : Int) ≤ ((bitI Go.BinOp.and IntKind.u64 (((u / (@HPow.hPow Int Nat Int _ (2 : (Ty.den (Ty.int IntKind.u64))) (32 : Nat))) * (bitI Go.BinOp.and IntKind.u64 v (4294967295 : Int))) + (((bitI Go.BinOp.and IntKind.u64 u (4294967295 : Int)) * (bitI Go.BinOp.and IntKind.u64 v (4294967295 : Int))) / (@HPow.hPow Int Nat Int _ (2 : (Ty.den (Ty.int IntKind.u64))) (32 : Nat)))) (4294967295 : Int)) + ((bitI Go.BinOp.and IntKind.u64 u (4294967295 : Int)) * (v / (@HPow.hPow Int Nat Int _ (2 : (Ty.den (Ty.int IntKind.u64))) (32 : Nat)))))) ∧
 (((bitI Go.BinOp.and IntKind.u64 (((u / (@HPow.hPow Int Nat Int _ (2 : (Ty.den (Ty.int IntKind.u64))) (32 : Nat))) * (bitI Go.BinOp.and IntKind.u64 v (4294967295 : Int))) + (((bitI Go.BinOp.and IntKind.u64 u (4294967295 : Int)) * (bitI Go.BinOp.and IntKind.u64 v (4294967295 : Int))) / (@HPow.hPow Int Nat Int _ (2 : (Ty.den (Ty.int IntKind.u64))) (32 : Nat)))) (4294967295 : Int)) + ((bitI Go.BinOp.and IntKind.u64 u (4294967295 : Int)) * (v / (@HPow.hPow Int Nat Int _ (2 : (Ty.den (Ty.int IntKind.u64))) (32 : Nat))))) ≤ (18446744073709551615 : Int))) ∧
 ((((0 : Int) ≤ ((u / (@HPow.hPow Int Nat Int _ (2 : (Ty.den (Ty.int IntKind.u64))) (32 : Nat))) * (v / (@HPow.hPow Int Nat Int _ (2 : (Ty.den (Ty.int IntKind.u64))) (32 : Nat))))) ∧
 (((u / (@HPow.hPow Int Nat Int _ (2 : (Ty.den (Ty.int IntKind.u64))) (32 : Nat))) * (v / (@HPow.hPow Int Nat Int _ (2 : (Ty.den (Ty.int IntKind.u64))) (32 : Nat)))) ≤ (18446744073709551615 : Int))) ∧
 ((((0 : Int) ≤ (((u / (@HPow.hPow Int Nat Int _ (2 : (Ty.den (Ty.int IntKind.u64))) (32 : Nat))) * (v / (@HPow.hPow Int Nat Int _ (2 : (Ty.den (Ty.int IntKind.u64))) (32 : Nat)))) + ((((u / (@HPow.hPow Int Nat Int _ (2 : (Ty.den (Ty.int IntKind.u64))) (32 : Nat))) * (bitI Go.BinOp.and IntKind.u64 v (4294967295 : Int))) + (((bitI Go.BinOp.and IntKind.u64 u (4294967295 : Int)) * (bitI Go.BinOp.and IntKind.u64 v (4294967295 : Int))) / (@HPow.hPow Int Nat Int _ (2 : (Ty.den (Ty.int IntKind.u64))) (32 : Nat)))) / (@HPow.hPow Int Nat Int _ (2 : (Ty.den (Ty.int IntKind.u64))) (32 : Nat))))) ∧
 ((((u / (@HPow.hPow Int Nat Int _ (2 : (Ty.den (Ty.int IntKind.u64))) (32 : Nat))) * (v / (@HPow.hPow Int Nat Int _ (2 : (Ty.den (Ty.int IntKind.u64))) (32 : Nat)))) + ((((u / (@HPow.hPow Int Nat Int _ (2 : (Ty.den (Ty.int IntKind.u64))) (32 : Nat))) * (bitI Go.BinOp.and IntKind.u64 v (4294967295 : Int))) + (((bitI Go.BinOp.and IntKind.u64 u (4294967295 : Int)) * (bitI Go.BinOp.and IntKind.u64 v (4294967295 : Int))) / (@HPow.hPow Int Nat Int _ (2 : (Ty.den (Ty.int IntKind.u64))) (32 : Nat)))) / (@HPow.hPow Int Nat Int _ (2 : (Ty.den (Ty.int IntKind.u64))) (32 : Nat)))) ≤ (18446744073709551615 : Int))) ∧
 ((((0 : Int) ≤ ((bitI Go.BinOp.and IntKind.u64 (((u / (@HPow.hPow Int Nat Int _ (2 : (Ty.den (Ty.int IntKind.u64))) (32 : Nat))) * (bitI Go.BinOp.and IntKind.u64 v (4294967295 : Int))) + (((bitI Go.BinOp.and IntKind.u64 u (4294967295 : Int)) * (bitI Go.BinOp.and IntKind.u64 v (4294967295 : Int))) / (@HPow.hPow Int Nat Int _ (2 : (Ty.den (Ty.int IntKind.u64))) (32 : Nat)))) (4294967295 : Int)) + ((bitI Go.BinOp.and IntKind.u64 u (4294967295 : Int)) * (v / (@HPow.hPow Int Nat Int _ (2 : (Ty.den (Ty.int IntKind.u64))) (32 : Nat)))))) ∧
 (((0 : Int) ≤ (32 : Int)) ∧
 ((32 : Int) < (@Nat.cast Int _ (64 : Nat))))) ∧
 ((((0 : Int) ≤ ((((u / (@HPow.hPow Int Nat Int _ (2 : (Ty.den (Ty.int IntKind.u64))) (32 : Nat))) * (v / (@HPow.hPow Int Nat Int _ (2 : (Ty.den (Ty.int IntKind.u64))) (32 : Nat)))) + ((((u / (@HPow.hPow Int Nat Int _ (2 : (Ty.den (Ty.int IntKind.u64))) (32 : Nat))) * (bitI Go.BinOp.and IntKind.u64 v (4294967295 : Int))) + (((bitI Go.BinOp.and IntKind.u64 u (4294967295 : Int)) * (bitI Go.BinOp.and IntKind.u64 v (4294967295 : Int))) / (@HPow.hPow Int Nat Int _ (2 : (Ty.den (Ty.int IntKind.u64))) (32 : Nat)))) / (@HPow.hPow Int Nat Int _ (2 : (Ty.den (Ty.int IntKind.u64))) (32 : Nat)))) + (((bitI Go.BinOp.and IntKind.u64 (((u / (@HPow.hPow Int Nat Int _ (2 : (Ty.den (Ty.int IntKind.u64))) (32 : Nat))) * (bitI Go.BinOp.and IntKind.u64 v (4294967295 : Int))) + (((bitI Go.BinOp.and IntKind.u64 u (4294967295 : Int)) * (bitI Go.BinOp.and IntKind.u64 v (4294967295 : Int))) / (@HPow.hPow Int Nat Int _ (2 : (Ty.den (Ty.int IntKind.u64))) (32 : Nat)))) (4294967295 : Int)) + ((bitI Go.BinOp.and IntKind.u64 u (4294967295 : Int)) * (v / (@HPow.hPow Int Nat Int _ (2 : (Ty.den (Ty.int IntKind.u64))) (32 : Nat))))) / (@HPow.hPow Int Nat Int _ (2 : (Ty.den (Ty.int IntKind.u64))) (32 : Nat))))) ∧
 (((((u / (@HPow.hPow Int Nat Int _ (2 : (Ty.den (Ty.int IntKind.u64))) (32 : Nat))) * (v / (@HPow.hPow Int Nat Int _ (2 : (Ty.den (Ty.int IntKind.u64))) (32 : Nat)))) + ((((u / (@HPow.hPow Int Nat Int _ (2 : (Ty.den (Ty.int IntKind.u64))) (32 : Nat))) * (bitI Go.BinOp.and IntKind.u64 v (4294967295 : Int))) + (((bitI Go.BinOp.and IntKind.u64 u (4294967295 : Int)) * (bitI Go.BinOp.and IntKind.u64 v (4294967295 : Int))) / (@HPow.hPow Int Nat Int _ (2 : (Ty.den (Ty.int IntKind.u64))) (32 : Nat)))) / (@HPow.hPow Int Nat Int _ (2 : (Ty.den (Ty.int IntKind.u64))) (32 : Nat)))) + (((bitI Go.BinOp.and IntKind.u64 (((u / (@HPow.hPow Int Nat Int _ (2 : (Ty.den (Ty.int IntKind.u64))) (32 : Nat))) * (bitI Go.BinOp.and IntKind.u64 v (4294967295 : Int))) + (((bitI Go.BinOp.and IntKind.u64 u (4294967295 : Int)) * (bitI Go.BinOp.and IntKind.u64 v (4294967295 : Int))) / (@HPow.hPow Int Nat Int _ (2 : (Ty.den (Ty.int IntKind.u64))) (32 : Nat)))) (4294967295 : Int)) + ((bitI Go.BinOp.and IntKind.u64 u (4294967295 : Int)) * (v / (@HPow.hPow Int Nat Int _ (2 : (Ty.den (Ty.int IntKind.u64))) (32 : Nat))))) / (@HPow.hPow Int Nat Int _ (2 : (Ty.den (Ty.int IntKind.u64))) (32 : Nat)))) ≤ (18446744073709551615 : Int))) ∧
 ((((0 : Int) ≤ (u * v)) ∧
 ((u * v) ≤ (18446744073709551615 : Int))) ∧
 ((((((u / (@HPow.hPow Int Nat Int _ (2 : (Ty.den (Ty.int IntKind.u64))) (32 : Nat))) * (v / (@HPow.hPow Int Nat Int _ (2 : (Ty.den (Ty.int IntKind.u64))) (32 : Nat)))) + ((((u / (@HPow.hPow Int Nat Int _ (2 : (Ty.den (Ty.int IntKind.u64))) (32 : Nat))) * (bitI Go.BinOp.and IntKind.u64 v (4294967295 : Int))) + (((bitI Go.BinOp.and IntKind.u64 u (4294967295 : Int)) * (bitI Go.BinOp.and IntKind.u64 v (4294967295 : Int))) / (@HPow.hPow Int Nat Int _ (2 : (Ty.den (Ty.int IntKind.u64))) (32 : Nat)))) / (@HPow.hPow Int Nat Int _ (2 : (Ty.den (Ty.int IntKind.u64))) (32 : Nat)))) + (((bitI Go.BinOp.and IntKind.u64 (((u / (@HPow.hPow Int Nat Int _ (2 : (Ty.den (Ty.int IntKind.u64))) (32 : Nat))) * (bitI Go.BinOp.and IntKind.u64 v (4294967295 : Int))) + (((bitI Go.BinOp.and IntKind.u64 u (4294967295 : Int)) * (bitI Go.BinOp.and IntKind.u64 v (4294967295 : Int))) / (@HPow.hPow Int Nat Int _ (2 : (Ty.den (Ty.int IntKind.u64))) (32 : Nat)))) (4294967295 : Int)) + ((bitI Go.BinOp.and IntKind.u64 u (4294967295 : Int)) * (v / (@HPow.hPow Int Nat Int _ (2 : (Ty.den (Ty.int IntKind.u64))) (32 : Nat))))) / (@HPow.hPow Int Nat Int _ (2 : (Ty.den (Ty.int IntKind.u64))) (32 : Nat)))) = (0 : Int)) ∧
 (((u * v) = (u * v)) ∧
 True)))))))))))))))))))) := by kernel_rfl
theorem det_math_bits_Mul64 : C_math_bits_Mul64.det = true → ∀ x, (C_math_bits_Mul64.out x).Det := fun _ x => by simp only [C_math_bits_Mul64]; repeat (first | exact Det.ret _ | exact Det.vc' | apply Det.req | apply Det.giv | apply Det.fork | apply Det.bif' | intro _)
set_option maxRecDepth 200000 in
set_option maxHeartbeats 1000000 in
theorem ok_math_bits_Mul64 : ConOK Try.prog 69 C_math_bits_Mul64 := by
  refine con_mk (wr := false) (ty := tyL [(3, .i), (5, .u), (4, .bool), (9, .str), (80, .int .u64), (26, .st .hash), (24, .list .i), (22, .list .str), (38, .list .u), (33, .st .hash)]) (l := []) trivial Try.checked.mixed (fn := Try.f69) (body := Try.f69.body.getD .skip) Try.func69 rfl (by decide) (by kernel_rfl) rfl an_math_bits_Mul64 fun x ho hx => ?_
  obtain ⟨u, v, ⟨⟩⟩ := x
  refine Keeps.of (vc_math_bits_Mul64 u v) ?_
  revert u v ho hx
  show ∀ (u : Int) (v : Int), _
  intro u v ho hx
  dsimp only [C_math_bits_Mul64, okPTL, okPT, Ok, Ty.cells, SN.cells, OkL, OkC, okI, ci, cb, cs, cl] at ho
  dsimp only [C_math_bits_Mul64, vc, v1, decB, SR.pre] at hx
  obtain ⟨⟨p1, p2, p3, p4⟩, _⟩ := hx
  have e1 := and_small (x := u) p1 (by omega)
  have e2 := and_small (x := v) p3 (by omega)
  have e3 : u / 4294967296 = 0 := by omega
  have e4 : v / 4294967296 = 0 := by omega
  have hm : 0 ≤ u * v ∧ u * v ≤ 65535 * 65535 := ⟨Int.mul_nonneg p1 p3, Int.mul_le_mul p2 p4 p3 (by omega)⟩
  have e5 : u * v / 4294967296 = 0 := by omega
  have e0 := and_small (x := 0) (by omega) (by omega)
  have e6 : (0 : Int) / 4294967296 = 0 := by decide
  have p32 : (2 : Int) ^ (32 : Int).toNat = 4294967296 := rfl
  have q32 : (2 : Int) ^ 32 = 4294967296 := rfl
  simp only [Int.reduceToNat, q32, p32, e1, e2, e3, e4, e5, e6, e0, Int.zero_mul, Int.mul_zero, Int.zero_add, Int.add_zero]
  simp only [decide_eq_true_eq, decide_eq_false_iff_not, Bool.not_eq_true', Bool.not_eq_false', and_true, true_and, Int.toNat_natCast, exists_eq_left', exists_eq_left, exists_and_left, Int.not_lt, Int.not_le, Bool.false_eq_true, false_implies, implies_true, forall_const, List.length_append, List.length_cons, List.length_nil, Int.sub_add_cancel, Int.add_sub_cancel, and_imp, get_set_iff, forall_eq', forall_eq, List.set_set, mkd_get, mkd_len, List.length_set, Option.some.injEq]; (repeat' first | intro _ | apply And.intro); all_goals (try omega)
def C_math_bits_Mul : Con := { ps := [.ro (.int .u64), .ro (.int .u64)], out := fun x => let u : Int := x.1; let v : Int := x.2.1; .req (0 ≤ u ∧ u ≤ 65535 ∧ 0 ≤ v ∧ v ≤ 65535) (.ret { val := .tup [(false, [.c ⟨.int .u64, (0 : Int)⟩]), (false, [.c ⟨.int .u64, (u * v : Int)⟩])] }), det := true }
def G_math_bits_Mul : Cfg := mkG (tyL [(3, .i), (5, .u), (4, .bool), (9, .str), (80, .int .u64), (26, .st .hash), (24, .list .i), (22, .list .str), (38, .list .u), (33, .st .hash)]) [(69, C_math_bits_Mul64)] false
def an_math_bits_Mul : PTL C_math_bits_Mul.ps → Nat → Option Ann := fun _ _ => none
set_option maxRecDepth 200000 in
theorem vc_math_bits_Mul (u : Int) (v : Int) : (keeps Try.prog G_math_bits_Mul (an_math_bits_Mul (u, v, ())) (Try.f61.body.getD .skip) Try.f61.results.toList C_math_bits_Mul (u, v, ())) = (((((0 : Int) ≤ u) ∧
 ((u ≤ (65535 : Int)) ∧
 (((0 : Int) ≤ v) ∧
 (v ≤ (65535 : Int))))) ∧
 (((0 : Int) = (0 : Int)) ∧
 (((u * v) = (u * v)) ∧
 True)))) := by kernel_rfl
theorem det_math_bits_Mul : C_math_bits_Mul.det = true → ∀ x, (C_math_bits_Mul.out x).Det := fun _ x => by simp only [C_math_bits_Mul]; repeat (first | exact Det.ret _ | exact Det.vc' | apply Det.req | apply Det.giv | apply Det.fork | apply Det.bif' | intro _)
set_option maxRecDepth 200000 in
set_option maxHeartbeats 1000000 in
theorem ok_math_bits_Mul : ConOK Try.prog 61 C_math_bits_Mul := by
  refine con_mk (wr := false) (ty := tyL [(3, .i), (5, .u), (4, .bool), (9, .str), (80, .int .u64), (26, .st .hash), (24, .list .i), (22, .list .str), (38, .list .u), (33, .st .hash)]) (l := [(69, C_math_bits_Mul64)]) ⟨⟨ok_math_bits_Mul64, det_math_bits_Mul64⟩, trivial⟩ Try.checked.mixed (fn := Try.f61) (body := Try.f61.body.getD .skip) Try.func61 rfl (by decide) (by kernel_rfl) rfl an_math_bits_Mul fun x ho hx => ?_
  obtain ⟨u, v, ⟨⟩⟩ := x
  refine Keeps.of (vc_math_bits_Mul u v) ?_
  revert u v ho hx
  show ∀ (u : Int) (v : Int), _
  intro u v ho hx
  dsimp only [C_math_bits_Mul, okPTL, okPT, Ok, Ty.cells, SN.cells, OkL, OkC, okI, ci, cb, cs, cl] at ho
  dsimp only [C_math_bits_Mul, vc, v1, decB, SR.pre] at hx
  simp only [decide_eq_true_eq, decide_eq_false_iff_not, Bool.not_eq_true', Bool.not_eq_false', and_true, true_and, Int.toNat_natCast, exists_eq_left', exists_eq_left, exists_and_left, Int.not_lt, Int.not_le, Bool.false_eq_true, false_implies, implies_true, forall_const, List.length_append, List.length_cons, List.length_nil, Int.sub_add_cancel, Int.add_sub_cancel, and_imp, get_set_iff, forall_eq', forall_eq, List.set_set, mkd_get, mkd_len, List.length_set, Option.some.injEq]; (repeat' first | intro _ | apply And.intro); all_goals (try omega); all_goals grind
def C_slices_Repeat_int_int : Con := { ps := [.ro (.list .i), .ro .i], out := fun x => let a : List (Int) := x.1; let n : Int := x.2.1; .req (a.length = 1 ∧ 0 ≤ n ∧ n ≤ 65535) (newL .i (List.replicate n.toNat (a.getD 0 0))), det := true }
def G_slices_Repeat_int_int : Cfg := mkG (tyL [(3, .i), (5, .u), (4, .bool), (9, .str), (80, .int .u64), (26, .st .hash), (24, .list .i), (22, .list .str), (38, .list .u), (33, .st .hash)]) [(61, C_math_bits_Mul)] false
def an_slices_Repeat_int_int : PTL C_slices_Repeat_int_int.ps → Nat → Option Ann := fun x kk_ => let a : List (Int) := x.1; let n : Int := x.2.1; if kk_ = 8 then some (.all (Int) fun i => .giv (0 ≤ i ∧ i ≤ n ∧ (i = 0 → n = 0)) (.mk [(7, asl 20), (8, ai i)] [(20, .row (some 3) .i (repF (a.getD 0 0) n.toNat i.toNat) true)] ((n.toNat - i.toNat)))) else none
set_option maxRecDepth 200000 in
theorem vc_slices_Repeat_int_int (a : List (Int)) (n : Int) : (keeps Try.prog G_slices_Repeat_int_int (an_slices_Repeat_int_int (a, n, ())) (Try.f36.body.getD .skip) Try.f36.results.toList C_slices_Repeat_int_int (a, n, ())) = (((((decide (n < (0 : Int))) = true) →
 False) ∧
 (((decide (n < (0 : Int))) = false) →
 (((List.length a) ≤ (9223372036854775807 : Nat)) →
 (((0 : Int) ≤ (@Nat.cast Int _ (List.length a))) ∧
 (((0 : Int) ≤ n) ∧
 ((((0 : Int) ≤ (@Nat.cast Int _ (List.length a))) ∧
 (((@Nat.cast Int _ (List.length a)) ≤ (65535 : Int)) ∧
 (((0 : Int) ≤ n) ∧
 (n ≤ (65535 : Int))))) ∧
 ((((decide ((0 : Int) < (0 : Int))) = true) →
 False) ∧
 (((decide ((0 : Int) < (0 : Int))) = false) →
 ((((decide ((9223372036854775807 : Int) < ((@Nat.cast Int _ (List.length a)) * n))) = true) →
 False) ∧
 (((decide ((9223372036854775807 : Int) < ((@Nat.cast Int _ (List.length a)) * n))) = false) →
 ((((@Nat.cast Int _ (List.length a)) * n) ≤ (9223372036854775807 : Int)) ∧
 (((((@Nat.cast Int _ (List.length a)) * n) = ((@Nat.cast Int _ (List.length a)) * n)) ∧
 (((0 : Int) ≤ ((@Nat.cast Int _ (List.length a)) * n)) ∧
 ((((@Nat.cast Int _ (List.length a)) * n) ≤ (1000000000000 : Int)) ∧
 (((@Nat.cast Int _ (8 : Nat)) * ((@Nat.cast Int _ (List.length a)) * n)) ≤ (140737488355328 : Int))))) ∧
 ((∃ (x_1 : Int), (((@Nat.cast Int _ (@Min.min Nat _ (List.length a) (List.length (@repl Int ((@Nat.cast Int _ (List.length a)) * n) (0 : Int))))) = x_1) ∧
 ((@Eq (List Int) ((List.take (List.length (@repl Int ((@Nat.cast Int _ (List.length a)) * n) (0 : Int))) a) ++ (List.drop (@Min.min Nat _ (List.length a) (List.length (@repl Int ((@Nat.cast Int _ (List.length a)) * n) (0 : Int)))) (@repl Int ((@Nat.cast Int _ (List.length a)) * n) (0 : Int)))) (repF (@List.getD Int a (0 : Nat) (0 : Int)) (Int.toNat n) (Int.toNat x_1))) ∧
 ((((0 : Int) ≤ x_1) ∧
 ((x_1 ≤ n) ∧
 ((x_1 = (0 : Int)) →
 (n = (0 : Int))))) ∧
 True)))) ∧
 (∀ (x_2 : Int), ((((0 : Int) ≤ x_2) ∧
 ((x_2 ≤ n) ∧
 ((x_2 = (0 : Int)) →
 (n = (0 : Int))))) →
 (((List.length (repF (@List.getD Int a (0 : Nat) (0 : Int)) (Int.toNat n) (Int.toNat x_2))) ≤ (9223372036854775807 : Nat)) →
 ((((decide (x_2 < (@Nat.cast Int _ (List.length (repF (@List.getD Int a (0 : Nat) (0 : Int)) (Int.toNat n) (Int.toNat x_2)))))) = true) →
 ((((0 : Int) ≤ x_2) ∧
 (x_2 ≤ (@Nat.cast Int _ (List.length (repF (@List.getD Int a (0 : Nat) (0 : Int)) (Int.toNat n) (Int.toNat x_2)))))) ∧
 ((((0 : Int) ≤ x_2) ∧
 (x_2 ≤ (@Nat.cast Int _ (List.length (repF (@List.getD Int a (0 : Nat) (0 : Int)) (Int.toNat n) (Int.toNat x_2)))))) ∧
 ((((Int.toNat x_2) + ((List.length (repF (@List.getD Int a (0 : Nat) (0 : Int)) (Int.toNat n) (Int.toNat x_2))) - (Int.toNat x_2))) ≤ (List.length (repF (@List.getD Int a (0 : Nat) (0 : Int)) (Int.toNat n) (Int.toNat x_2)))) →
 ((((- (9223372036854775808 : Int)) ≤ (x_2 + (@Nat.cast Int _ (@Min.min Nat _ (List.length (List.take ((Int.toNat x_2) - (0 : Nat)) (List.drop (0 : Nat) (repF (@List.getD Int a (0 : Nat) (0 : Int)) (Int.toNat n) (Int.toNat x_2))))) ((List.length (repF (@List.getD Int a (0 : Nat) (0 : Int)) (Int.toNat n) (Int.toNat x_2))) - (Int.toNat x_2)))))) ∧
 ((x_2 + (@Nat.cast Int _ (@Min.min Nat _ (List.length (List.take ((Int.toNat x_2) - (0 : Nat)) (List.drop (0 : Nat) (repF (@List.getD Int a (0 : Nat) (0 : Int)) (Int.toNat n) (Int.toNat x_2))))) ((List.length (repF (@List.getD Int a (0 : Nat) (0 : Int)) (Int.toNat n) (Int.toNat x_2))) - (Int.toNat x_2))))) ≤ (9223372036854775807 : Int))) ∧
 (∃ (x_3 : Int), (((x_2 + (@Nat.cast Int _ (@Min.min Nat _ (List.length (List.take ((Int.toNat x_2) - (0 : Nat)) (List.drop (0 : Nat) (repF (@List.getD Int a (0 : Nat) (0 : Int)) (Int.toNat n) (Int.toNat x_2))))) ((List.length (repF (@List.getD Int a (0 : Nat) (0 : Int)) (Int.toNat n) (Int.toNat x_2))) - (Int.toNat x_2))))) = x_3) ∧
 ((@Eq (List Int) (((List.take (Int.toNat x_2) (repF (@List.getD Int a (0 : Nat) (0 : Int)) (Int.toNat n) (Int.toNat x_2))) ++ (List.take ((List.length (repF (@List.getD Int a (0 : Nat) (0 : Int)) (Int.toNat n) (Int.toNat x_2))) - (Int.toNat x_2)) (List.take ((Int.toNat x_2) - (0 : Nat)) (List.drop (0 : Nat) (repF (@List.getD Int a (0 : Nat) (0 : Int)) (Int.toNat n) (Int.toNat x_2)))))) ++ (List.drop ((Int.toNat x_2) + (@Min.min Nat _ (List.length (List.take ((Int.toNat x_2) - (0 : Nat)) (List.drop (0 : Nat) (repF (@List.getD Int a (0 : Nat) (0 : Int)) (Int.toNat n) (Int.toNat x_2))))) ((List.length (repF (@List.getD Int a (0 : Nat) (0 : Int)) (Int.toNat n) (Int.toNat x_2))) - (Int.toNat x_2)))) (repF (@List.getD Int a (0 : Nat) (0 : Int)) (Int.toNat n) (Int.toNat x_2)))) (repF (@List.getD Int a (0 : Nat) (0 : Int)) (Int.toNat n) (Int.toNat x_3))) ∧
 ((((0 : Int) ≤ x_3) ∧
 ((x_3 ≤ n) ∧
 ((x_3 = (0 : Int)) →
 (n = (0 : Int))))) ∧
 (((Int.toNat n) - (Int.toNat x_3)) < ((Int.toNat n) - (Int.toNat x_2)))))))))))) ∧
 (((decide (x_2 < (@Nat.cast Int _ (List.length (repF (@List.getD Int a (0 : Nat) (0 : Int)) (Int.toNat n) (Int.toNat x_2)))))) = false) →
 ((@Eq (List Int) (repF (@List.getD Int a (0 : Nat) (0 : Int)) (Int.toNat n) (Int.toNat x_2)) (@List.replicate Int (Int.toNat n) (@List.getD Int a (0 : Nat) (0 : Int)))) ∧
 True)))))))))))))))))))) := by kernel_rfl
theorem det_slices_Repeat_int_int : C_slices_Repeat_int_int.det = true → ∀ x, (C_slices_Repeat_int_int.out x).Det := fun _ x => by simp only [C_slices_Repeat_int_int]; repeat (first | exact Det.ret _ | exact Det.vc' | apply Det.req | apply Det.giv | apply Det.fork | apply Det.bif' | intro _)
set_option maxRecDepth 200000 in
set_option maxHeartbeats 1000000 in
theorem ok_slices_Repeat_int_int : ConOK Try.prog 36 C_slices_Repeat_int_int := by
  refine con_mk (wr := false) (ty := tyL [(3, .i), (5, .u), (4, .bool), (9, .str), (80, .int .u64), (26, .st .hash), (24, .list .i), (22, .list .str), (38, .list .u), (33, .st .hash)]) (l := [(61, C_math_bits_Mul)]) ⟨⟨ok_math_bits_Mul, det_math_bits_Mul⟩, trivial⟩ Try.checked.mixed (fn := Try.f36) (body := Try.f36.body.getD .skip) Try.func36 rfl (by decide) (by kernel_rfl) rfl an_slices_Repeat_int_int fun x ho hx => ?_
  obtain ⟨a, n, ⟨⟩⟩ := x
  refine Keeps.of (vc_slices_Repeat_int_int a n) ?_
  revert a n ho hx
  show ∀ (a : List (Int)) (n : Int), _
  intro a n ho hx
  dsimp only [C_slices_Repeat_int_int, okPTL, okPT, Ok, Ty.cells, SN.cells, OkL, OkC, okI, ci, cb, cs, cl] at ho
  dsimp only [C_slices_Repeat_int_int, vc, v1, decB, SR.pre] at hx
  obtain ⟨h1, h2⟩ := repl_len1 (n := n) hx.1.1
  have h3 := repF_start hx.1.1 hx.1.2.1
  have h4 : ∀ i : Int, 0 ≤ i → i ≤ n → (repF (a.getD 0 0) n.toNat i.toNat).length = n.toNat := fun i g1 g2 => repF_len (by omega)
  have h5 : ∀ i : Int, n ≤ i → i ≤ n → repF (a.getD 0 0) n.toNat i.toNat = List.replicate n.toNat (a.getD 0 0) := fun i g1 g2 => by rw [show i = n by omega]; exact repF_end
  have h6 : ∀ i : Int, 0 ≤ i → i ≤ n → (List.take (i.toNat - 0) (List.drop 0 (repF (a.getD 0 0) n.toNat i.toNat))).length = i.toNat := fun i g1 g2 => by rw [List.length_take, List.drop_zero, h4 i g1 g2]; omega
  have h7 := fun (i : Int) (g1 : 0 ≤ i) (g2 : i ≤ n) => repF_round (e := a.getD 0 0) (n := n.toNat) (i := i.toNat) (by omega)
  simp only [decide_eq_true_eq, decide_eq_false_iff_not, Bool.not_eq_true', Bool.not_eq_false', and_true, true_and, Int.toNat_natCast, exists_eq_left', exists_eq_left, exists_and_left, Int.not_lt, Int.not_le, Bool.false_eq_true, false_implies, implies_true, forall_const, List.length_append, List.length_cons, List.length_nil, Int.sub_add_cancel, Int.add_sub_cancel, and_imp, get_set_iff, forall_eq', forall_eq, List.set_set, mkd_get, mkd_len, List.length_set, Option.some.injEq]; (repeat' first | intro _ | apply And.intro); all_goals (try omega)
  all_goals (try have e4 := h4 _ (by assumption) (by assumption))
  all_goals (try have e6 := h6 _ (by assumption) (by assumption))
  all_goals (try have e7 := h7 _ (by assumption) (by assumption))
  all_goals first
    | (rw [h3, h1, hx.1.1]; done)
    | (refine e7.trans ?_; rw [e6, e4]; congr 1; omega)
    | (rw [e6, e4]; omega)
    | (rename_i hz; rw [e4] at hz; refine h5 _ ?_ ?_ <;> omega)
    | (rename_i hz; rw [e4] at hz; refine (h5 _ ?_ ?_).symm <;> omega)
    | omega
def C_slices_Equal_int_int : Con := { ps := [.ro (.list .i), .ro (.list .i)], out := fun x => let a : List (Int) := x.1; let b : List (Int) := x.2.1; vc .bool (decide (a = b)), det := true }
def G_slices_Equal_int_int : Cfg := mkG (tyL [(3, .i), (5, .u), (4, .bool), (9, .str), (80, .int .u64), (26, .st .hash), (24, .list .i), (22, .list .str), (38, .list .u), (33, .st .hash)]) [] false
def an_slices_Equal_int_int : PTL C_slices_Equal_int_int.ps → Nat → Option Ann := fun x kk_ => let a : List (Int) := x.1; let b : List (Int) := x.2.1; if kk_ = 4 then some (.all (Int) fun i => .giv (0 ≤ i ∧ i ≤ a.length ∧ a.length = b.length ∧ a.take i.toNat = b.take i.toNat) (.mk [(13, ai i), (0, al .i a), (1, al .i b), (12, ai (List.length a))] [] ((a.length - i.toNat)))) else none
set_option maxRecDepth 200000 in
theorem vc_slices_Equal_int_int (a : List (Int)) (b : List (Int)) : (keeps Try.prog G_slices_Equal_int_int (an_slices_Equal_int_int (a, b, ())) (Try.f46.body.getD .skip) Try.f46.results.toList C_slices_Equal_int_int (a, b, ())) = ((((List.length a) ≤ (9223372036854775807 : Nat)) →
 (((List.length b) ≤ (9223372036854775807 : Nat)) →
 ((((decide ((@Nat.cast Int _ (List.length a)) ≠ (@Nat.cast Int _ (List.length b)))) = true) →
 ((false = (decide (@Eq (List Int) a b))) ∧
 True)) ∧
 (((decide ((@Nat.cast Int _ (List.length a)) ≠ (@Nat.cast Int _ (List.length b)))) = false) →
 (((List.length a) ≤ (9223372036854775807 : Nat)) →
 ((∃ (x_1 : Int), (((0 : Int) = x_1) ∧
 ((@Eq (List Int) a a) ∧
 ((@Eq (List Int) b b) ∧
 (((@Nat.cast Int _ (List.length a)) = (@Nat.cast Int _ (List.length a))) ∧
 ((((0 : Int) ≤ x_1) ∧
 ((x_1 ≤ (@Nat.cast Int _ (List.length a))) ∧
 (((List.length a) = (List.length b)) ∧
 (@Eq (List Int) (List.take (Int.toNat x_1) a) (List.take (Int.toNat x_1) b))))) ∧
 True)))))) ∧
 (∀ (x_2 : Int), ((((0 : Int) ≤ x_2) ∧
 ((x_2 ≤ (@Nat.cast Int _ (List.length a))) ∧
 (((List.length a) = (List.length b)) ∧
 (@Eq (List Int) (List.take (Int.toNat x_2) a) (List.take (Int.toNat x_2) b))))) →
 ((((decide (x_2 < (@Nat.cast Int _ (List.length a)))) = true) →
 ((((0 : Int) ≤ x_2) ∧
 (x_2 < (@Nat.cast Int _ (List.length a)))) ∧
 (∀ (x_3 : Int), ((@Eq (Option Int) (a)[(Int.toNat x_2)]? (some x_3)) →
 ((Ok (Ty.int IntKind.i64) x_3) →
 ((((0 : Int) ≤ x_2) ∧
 (x_2 < (@Nat.cast Int _ (List.length b)))) ∧
 (∀ (x_4 : Int), ((@Eq (Option Int) (b)[(Int.toNat x_2)]? (some x_4)) →
 ((Ok (Ty.int IntKind.i64) x_4) →
 ((((decide (x_3 ≠ x_4)) = true) →
 ((false = (decide (@Eq (List Int) a b))) ∧
 True)) ∧
 (((decide (x_3 ≠ x_4)) = false) →
 ((((- (9223372036854775808 : Int)) ≤ (x_2 + (1 : Int))) ∧
 ((x_2 + (1 : Int)) ≤ (9223372036854775807 : Int))) ∧
 (∃ (x_5 : Int), (((x_2 + (1 : Int)) = x_5) ∧
 ((@Eq (List Int) a a) ∧
 ((@Eq (List Int) b b) ∧
 (((@Nat.cast Int _ (List.length a)) = (@Nat.cast Int _ (List.length a))) ∧
 ((((0 : Int) ≤ x_5) ∧
 ((x_5 ≤ (@Nat.cast Int _ (List.length a))) ∧
 (((List.length a) = (List.length b)) ∧
 (@Eq (List Int) (List.take (Int.toNat x_5) a) (List.take (Int.toNat x_5) b))))) ∧
 (((List.length a) - (Int.toNat x_5)) < ((List.length a) - (Int.toNat x_2))))))))))))))))))))) ∧
 (((decide (x_2 < (@Nat.cast Int _ (List.length a)))) = false) →
 ((true = (decide (@Eq (List Int) a b))) ∧
 True)))))))))))) := by kernel_rfl
theorem det_slices_Equal_int_int : C_slices_Equal_int_int.det = true → ∀ x, (C_slices_Equal_int_int.out x).Det := fun _ x => by simp only [C_slices_Equal_int_int]; repeat (first | exact Det.ret _ | exact Det.vc' | apply Det.req | apply Det.giv | apply Det.fork | apply Det.bif' | intro _)
set_option maxRecDepth 200000 in
set_option maxHeartbeats 1000000 in
theorem ok_slices_Equal_int_int : ConOK Try.prog 46 C_slices_Equal_int_int := by
  refine con_mk (wr := false) (ty := tyL [(3, .i), (5, .u), (4, .bool), (9, .str), (80, .int .u64), (26, .st .hash), (24, .list .i), (22, .list .str), (38, .list .u), (33, .st .hash)]) (l := []) trivial Try.checked.mixed (fn := Try.f46) (body := Try.f46.body.getD .skip) Try.func46 rfl (by decide) (by kernel_rfl) rfl an_slices_Equal_int_int fun x ho hx => ?_
  obtain ⟨a, b, ⟨⟩⟩ := x
  refine Keeps.of (vc_slices_Equal_int_int a b) ?_
  revert a b ho hx
  show ∀ (a : List (Int)) (b : List (Int)), _
  intro a b ho hx
  dsimp only [C_slices_Equal_int_int, okPTL, okPT, Ok, Ty.cells, SN.cells, OkL, OkC, okI, ci, cb, cs, cl] at ho
  dsimp only [C_slices_Equal_int_int, vc, v1, decB, SR.pre] at hx
  simp only [decide_eq_true_eq, decide_eq_false_iff_not, Bool.not_eq_true', Bool.not_eq_false', and_true, true_and, Int.toNat_natCast, exists_eq_left', exists_eq_left, exists_and_left, Int.not_lt, Int.not_le, Bool.false_eq_true, false_implies, implies_true, forall_const, List.length_append, List.length_cons, List.length_nil, Int.sub_add_cancel, Int.add_sub_cancel, and_imp, get_set_iff, forall_eq', forall_eq, List.set_set, mkd_get, mkd_len, List.length_set, Option.some.injEq]; (repeat' first | intro _ | apply And.intro); all_goals (try omega); all_goals first | grind [take_all', take_next, take_diff] | exact take_next2 (by omega) (by assumption) (by assumption) (by assumption) (by assumption) | exact take_diff2 (by assumption) (by assumption) (by assumption)
def C_spec_l18Same : Con := { ps := [.ro (.list .i), .ro (.list .i)], out := fun x => let a : List (Int) := x.1; let b : List (Int) := x.2.1; vc .bool (decide (a = b)), det := true }
def G_spec_l18Same : Cfg := mkG (tyL [(3, .i), (5, .u), (4, .bool), (9, .str), (80, .int .u64), (26, .st .hash), (24, .list .i), (22, .list .str), (38, .list .u), (33, .st .hash)]) [] false
def an_spec_l18Same : PTL C_spec_l18Same.ps → Nat → Option Ann := fun x kk_ => let a : List (Int) := x.1; let b : List (Int) := x.2.1; if kk_ = 4 then some (.all (Int) fun i => .giv (0 ≤ i ∧ i ≤ a.length ∧ a.length = b.length ∧ a.take i.toNat = b.take i.toNat) (.mk [(5, ai i), (0, al .i a), (1, al .i b)] [] ((a.length - i.toNat)))) else none
set_option maxRecDepth 200000 in
theorem vc_spec_l18Same (a : List (Int)) (b : List (Int)) : (keeps Try.prog G_spec_l18Same (an_spec_l18Same (a, b, ())) (Try.f44.body.getD .skip) Try.f44.results.toList C_spec_l18Same (a, b, ())) = ((((List.length a) ≤ (9223372036854775807 : Nat)) →
 (((List.length b) ≤ (9223372036854775807 : Nat)) →
 ((((decide ((@Nat.cast Int _ (List.length a)) ≠ (@Nat.cast Int _ (List.length b)))) = true) →
 ((false = (decide (@Eq (List Int) a b))) ∧
 True)) ∧
 (((decide ((@Nat.cast Int _ (List.length a)) ≠ (@Nat.cast Int _ (List.length b)))) = false) →
 ((∃ (x_1 : Int), (((0 : Int) = x_1) ∧
 ((@Eq (List Int) a a) ∧
 ((@Eq (List Int) b b) ∧
 ((((0 : Int) ≤ x_1) ∧
 ((x_1 ≤ (@Nat.cast Int _ (List.length a))) ∧
 (((List.length a) = (List.length b)) ∧
 (@Eq (List Int) (List.take (Int.toNat x_1) a) (List.take (Int.toNat x_1) b))))) ∧
 True))))) ∧
 (∀ (x_2 : Int), ((((0 : Int) ≤ x_2) ∧
 ((x_2 ≤ (@Nat.cast Int _ (List.length a))) ∧
 (((List.length a) = (List.length b)) ∧
 (@Eq (List Int) (List.take (Int.toNat x_2) a) (List.take (Int.toNat x_2) b))))) →
 (((List.length a) ≤ (9223372036854775807 : Nat)) →
 ((((decide (x_2 < (@Nat.cast Int _ (List.length a)))) = true) →
 ((((0 : Int) ≤ x_2) ∧
 (x_2 < (@Nat.cast Int _ (List.length a)))) ∧
 (∀ (x_3 : Int), ((@Eq (Option Int) (a)[(Int.toNat x_2)]? (some x_3)) →
 ((Ok (Ty.int IntKind.i64) x_3) →
 ((((0 : Int) ≤ x_2) ∧
 (x_2 < (@Nat.cast Int _ (List.length b)))) ∧
 (∀ (x_4 : Int), ((@Eq (Option Int) (b)[(Int.toNat x_2)]? (some x_4)) →
 ((Ok (Ty.int IntKind.i64) x_4) →
 ((((decide (x_3 ≠ x_4)) = true) →
 ((false = (decide (@Eq (List Int) a b))) ∧
 True)) ∧
 (((decide (x_3 ≠ x_4)) = false) →
 ((((- (9223372036854775808 : Int)) ≤ (x_2 + (1 : Int))) ∧
 ((x_2 + (1 : Int)) ≤ (9223372036854775807 : Int))) ∧
 (∃ (x_5 : Int), (((x_2 + (1 : Int)) = x_5) ∧
 ((@Eq (List Int) a a) ∧
 ((@Eq (List Int) b b) ∧
 ((((0 : Int) ≤ x_5) ∧
 ((x_5 ≤ (@Nat.cast Int _ (List.length a))) ∧
 (((List.length a) = (List.length b)) ∧
 (@Eq (List Int) (List.take (Int.toNat x_5) a) (List.take (Int.toNat x_5) b))))) ∧
 (((List.length a) - (Int.toNat x_5)) < ((List.length a) - (Int.toNat x_2)))))))))))))))))))) ∧
 (((decide (x_2 < (@Nat.cast Int _ (List.length a)))) = false) →
 ((true = (decide (@Eq (List Int) a b))) ∧
 True)))))))))))) := by kernel_rfl
theorem det_spec_l18Same : C_spec_l18Same.det = true → ∀ x, (C_spec_l18Same.out x).Det := fun _ x => by simp only [C_spec_l18Same]; repeat (first | exact Det.ret _ | exact Det.vc' | apply Det.req | apply Det.giv | apply Det.fork | apply Det.bif' | intro _)
set_option maxRecDepth 200000 in
set_option maxHeartbeats 1000000 in
theorem ok_spec_l18Same : ConOK Try.prog 44 C_spec_l18Same := by
  refine con_mk (wr := false) (ty := tyL [(3, .i), (5, .u), (4, .bool), (9, .str), (80, .int .u64), (26, .st .hash), (24, .list .i), (22, .list .str), (38, .list .u), (33, .st .hash)]) (l := []) trivial Try.checked.mixed (fn := Try.f44) (body := Try.f44.body.getD .skip) Try.func44 rfl (by decide) (by kernel_rfl) rfl an_spec_l18Same fun x ho hx => ?_
  obtain ⟨a, b, ⟨⟩⟩ := x
  refine Keeps.of (vc_spec_l18Same a b) ?_
  revert a b ho hx
  show ∀ (a : List (Int)) (b : List (Int)), _
  intro a b ho hx
  dsimp only [C_spec_l18Same, okPTL, okPT, Ok, Ty.cells, SN.cells, OkL, OkC, okI, ci, cb, cs, cl] at ho
  dsimp only [C_spec_l18Same, vc, v1, decB, SR.pre] at hx
  simp only [decide_eq_true_eq, decide_eq_false_iff_not, Bool.not_eq_true', Bool.not_eq_false', and_true, true_and, Int.toNat_natCast, exists_eq_left', exists_eq_left, exists_and_left, Int.not_lt, Int.not_le, Bool.false_eq_true, false_implies, implies_true, forall_const, List.length_append, List.length_cons, List.length_nil, Int.sub_add_cancel, Int.add_sub_cancel, and_imp, get_set_iff, forall_eq', forall_eq, List.set_set, mkd_get, mkd_len, List.length_set, Option.some.injEq]; (repeat' first | intro _ | apply And.intro); all_goals (try omega); all_goals first | grind [take_all', take_next, take_diff] | exact take_next2 (by omega) (by assumption) (by assumption) (by assumption) (by assumption) | exact take_diff2 (by assumption) (by assumption) (by assumption)
def C_impl_MakeHash : Con := { ps := [.ro (.list .str), .ro .i], out := fun x => let l : List (ByteArray) := x.1; let b : Int := x.2.1; newS .hash (mkHash l b), det := true }
def G_impl_MakeHash : Cfg := mkG (tyL [(3, .i), (5, .u), (4, .bool), (9, .str), (80, .int .u64), (26, .st .hash), (24, .list .i), (22, .list .str), (38, .list .u), (33, .st .hash)]) [(32, C_impl_areNames), (33, C_impl_sorted), (34, C_impl_within), (35, C_slices_Clone_string_string), (36, C_slices_Repeat_int_int), (37, C_impl_HashOf)] false
def an_impl_MakeHash : PTL C_impl_MakeHash.ps → Nat → Option Ann := fun x kk_ => let l : List (ByteArray) := x.1; let b : Int := x.2.1; if kk_ = 5 then some (.all (Int) fun i => .giv (hashOk l b = true ∧ -1 ≤ i ∧ i < l.length) (.mk [(4, aref 30), (5, aref 31), (6, ai i), (0, al .str l), (1, ai b)] [(30, bx (ast .hash ⟨[], [], []⟩)), (31, .box false [.sl 32 [], .sl 33 [], .sl 34 []]), (32, .row none .str l true), (33, .row none .i (fillF b l (i + 1).toNat) true), (34, .row none .i (fillN b l (i + 1).toNat) true)] ((i + 1).toNat))) else none
set_option maxRecDepth 200000 in
theorem vc_impl_MakeHash (l : List (ByteArray)) (b : Int) : (keeps Try.prog G_impl_MakeHash (an_impl_MakeHash (l, b, ())) (Try.f12.body.getD .skip) Try.f12.results.toList C_impl_MakeHash (l, b, ())) = (((((Bool.not (Bool.and (decide ((@Nat.cast Int _ (List.length l)) ≤ (40 : Int))) (@List.all ByteArray l nameB))) = true) →
 ((@Eq (List ByteArray) ([] : List ByteArray) (HashT.names (mkHash l b))) ∧
 ((@Eq (List Int) ([] : List Int) (HashT.first (mkHash l b))) ∧
 ((@Eq (List Int) ([] : List Int) (HashT.next (mkHash l b))) ∧
 True)))) ∧
 (((Bool.not (Bool.and (decide ((@Nat.cast Int _ (List.length l)) ≤ (40 : Int))) (@List.all ByteArray l nameB))) = false) →
 (((List.length l) ≤ (1048576 : Nat)) ∧
 (((List.length (sortU l)) ≤ (9223372036854775807 : Nat)) →
 (((List.length l) ≤ (9223372036854775807 : Nat)) →
 ((((decide ((@Nat.cast Int _ (List.length (sortU l))) < (@Nat.cast Int _ (List.length l)))) = true) →
 ((@Eq (List ByteArray) ([] : List ByteArray) (HashT.names (mkHash l b))) ∧
 ((@Eq (List Int) ([] : List Int) (HashT.first (mkHash l b))) ∧
 ((@Eq (List Int) ([] : List Int) (HashT.next (mkHash l b))) ∧
 True)))) ∧
 (((decide ((@Nat.cast Int _ (List.length (sortU l))) < (@Nat.cast Int _ (List.length l)))) = false) →
 ((((Bool.not (decide (((1 : Int) ≤ b) ∧
 (b ≤ (8 : Int))))) = true) →
 ((@Eq (List ByteArray) ([] : List ByteArray) (HashT.names (mkHash l b))) ∧
 ((@Eq (List Int) ([] : List Int) (HashT.first (mkHash l b))) ∧
 ((@Eq (List Int) ([] : List Int) (HashT.next (mkHash l b))) ∧
 True)))) ∧
 (((Bool.not (decide (((1 : Int) ≤ b) ∧
 (b ≤ (8 : Int))))) = false) →
 (((List.length l) ≤ (1048576 : Nat)) ∧
 ((((List.length [(- (1 : Int))]) = (1 : Nat)) ∧
 (((0 : Int) ≤ b) ∧
 (b ≤ (65535 : Int)))) ∧
 (((List.length l) ≤ (9223372036854775807 : Nat)) →
 ((((List.length [(- (1 : Int))]) = (1 : Nat)) ∧
 (((0 : Int) ≤ (@Nat.cast Int _ (List.length l))) ∧
 ((@Nat.cast Int _ (List.length l)) ≤ (65535 : Int)))) ∧
 (((List.length l) ≤ (9223372036854775807 : Nat)) →
 ((((- (9223372036854775808 : Int)) ≤ ((@Nat.cast Int _ (List.length l)) - (1 : Int))) ∧
 (((@Nat.cast Int _ (List.length l)) - (1 : Int)) ≤ (9223372036854775807 : Int))) ∧
 ((∃ (x_1 : Int), ((((@Nat.cast Int _ (List.length l)) - (1 : Int)) = x_1) ∧
 ((@Eq (List ByteArray) l l) ∧
 ((b = b) ∧
 ((@Eq (List ByteArray) ([] : List ByteArray) ([] : List ByteArray)) ∧
 ((@Eq (List Int) ([] : List Int) ([] : List Int)) ∧
 ((@Eq (List Int) ([] : List Int) ([] : List Int)) ∧
 ((@Eq (List ByteArray) l l) ∧
 ((@Eq (List Int) (@List.replicate Int (Int.toNat b) (@List.getD Int [(- (1 : Int))] (0 : Nat) (0 : Int))) (fillF b l (Int.toNat (x_1 + (1 : Int))))) ∧
 ((@Eq (List Int) (@List.replicate Int (Int.toNat (@Nat.cast Int _ (List.length l))) (@List.getD Int [(- (1 : Int))] (0 : Nat) (0 : Int))) (fillN b l (Int.toNat (x_1 + (1 : Int))))) ∧
 ((((hashOk l b) = true) ∧
 (((- (1 : Int)) ≤ x_1) ∧
 (x_1 < (@Nat.cast Int _ (List.length l))))) ∧
 True))))))))))) ∧
 (∀ (x_2 : Int), ((((hashOk l b) = true) ∧
 (((- (1 : Int)) ≤ x_2) ∧
 (x_2 < (@Nat.cast Int _ (List.length l))))) →
 ((((decide ((0 : Int) ≤ x_2)) = true) →
 ((((0 : Int) ≤ x_2) ∧
 (x_2 < (@Nat.cast Int _ (List.length l)))) ∧
 (∀ (x_3 : ByteArray), ((@Eq (Option ByteArray) (l)[(Int.toNat x_2)]? (some x_3)) →
 ((Ok Ty.str x_3) →
 ((((0 : Int) ≤ (hashOf x_3)) ∧
 ((0 : Int) < b)) ∧
 ((((0 : Int) ≤ ((hashOf x_3) % b)) ∧
 (((hashOf x_3) % b) < (@Nat.cast Int _ (List.length (fillF b l (Int.toNat (x_2 + (1 : Int)))))))) ∧
 (∀ (x_4 : Int), ((@Eq (Option Int) ((fillF b l (Int.toNat (x_2 + (1 : Int)))))[(Int.toNat ((hashOf x_3) % b))]? (some x_4)) →
 ((Ok (Ty.int IntKind.i64) x_4) →
 ((((0 : Int) ≤ x_2) ∧
 (x_2 < (@Nat.cast Int _ (List.length (fillN b l (Int.toNat (x_2 + (1 : Int)))))))) ∧
 (∀ (x_5 : Int), ((@Eq (Option Int) ((fillN b l (Int.toNat (x_2 + (1 : Int)))))[(Int.toNat x_2)]? (some x_5)) →
 ((((0 : Int) ≤ ((hashOf x_3) % b)) ∧
 (((hashOf x_3) % b) < (@Nat.cast Int _ (List.length (fillF b l (Int.toNat (x_2 + (1 : Int)))))))) ∧
 (∀ (x_6 : Int), ((@Eq (Option Int) ((fillF b l (Int.toNat (x_2 + (1 : Int)))))[(Int.toNat ((hashOf x_3) % b))]? (some x_6)) →
 ((((- (9223372036854775808 : Int)) ≤ (x_2 - (1 : Int))) ∧
 ((x_2 - (1 : Int)) ≤ (9223372036854775807 : Int))) ∧
 (∃ (x_7 : Int), (((x_2 - (1 : Int)) = x_7) ∧
 ((@Eq (List ByteArray) l l) ∧
 ((b = b) ∧
 ((@Eq (List ByteArray) ([] : List ByteArray) ([] : List ByteArray)) ∧
 ((@Eq (List Int) ([] : List Int) ([] : List Int)) ∧
 ((@Eq (List Int) ([] : List Int) ([] : List Int)) ∧
 ((@Eq (List ByteArray) l l) ∧
 ((@Eq (List Int) (List.set (fillF b l (Int.toNat (x_2 + (1 : Int)))) (Int.toNat ((hashOf x_3) % b)) x_2) (fillF b l (Int.toNat (x_7 + (1 : Int))))) ∧
 ((@Eq (List Int) (List.set (fillN b l (Int.toNat (x_2 + (1 : Int)))) (Int.toNat x_2) x_4) (fillN b l (Int.toNat (x_7 + (1 : Int))))) ∧
 ((((hashOk l b) = true) ∧
 (((- (1 : Int)) ≤ x_7) ∧
 (x_7 < (@Nat.cast Int _ (List.length l))))) ∧
 ((Int.toNat (x_7 + (1 : Int))) < (Int.toNat (x_2 + (1 : Int)))))))))))))))))))))))))))))))) ∧
 (((decide ((0 : Int) ≤ x_2)) = false) →
 ((@Eq (List ByteArray) l (HashT.names (mkHash l b))) ∧
 ((@Eq (List Int) (fillF b l (Int.toNat (x_2 + (1 : Int)))) (HashT.first (mkHash l b))) ∧
 ((@Eq (List Int) (fillN b l (Int.toNat (x_2 + (1 : Int)))) (HashT.next (mkHash l b))) ∧
 True)))))))))))))))))))))))) := by kernel_rfl
theorem det_impl_MakeHash : C_impl_MakeHash.det = true → ∀ x, (C_impl_MakeHash.out x).Det := fun _ x => by simp only [C_impl_MakeHash]; repeat (first | exact Det.ret _ | exact Det.vc' | apply Det.req | apply Det.giv | apply Det.fork | apply Det.bif' | intro _)
set_option maxRecDepth 200000 in
set_option maxHeartbeats 1000000 in
theorem ok_impl_MakeHash : ConOK Try.prog 12 C_impl_MakeHash := by
  refine con_mk (wr := false) (ty := tyL [(3, .i), (5, .u), (4, .bool), (9, .str), (80, .int .u64), (26, .st .hash), (24, .list .i), (22, .list .str), (38, .list .u), (33, .st .hash)]) (l := [(32, C_impl_areNames), (33, C_impl_sorted), (34, C_impl_within), (35, C_slices_Clone_string_string), (36, C_slices_Repeat_int_int), (37, C_impl_HashOf)]) ⟨⟨ok_impl_areNames, det_impl_areNames⟩, ⟨⟨ok_impl_sorted, det_impl_sorted⟩, ⟨⟨ok_impl_within, det_impl_within⟩, ⟨⟨ok_slices_Clone_string_string, det_slices_Clone_string_string⟩, ⟨⟨ok_slices_Repeat_int_int, det_slices_Repeat_int_int⟩, ⟨⟨ok_impl_HashOf, det_impl_HashOf⟩, trivial⟩⟩⟩⟩⟩⟩ Try.checked.mixed (fn := Try.f12) (body := Try.f12.body.getD .skip) Try.func12 rfl (by decide) (by kernel_rfl) rfl an_impl_MakeHash fun x ho hx => ?_
  obtain ⟨l, b, ⟨⟩⟩ := x
  refine Keeps.of (vc_impl_MakeHash l b) ?_
  revert l b ho hx
  show ∀ (l : List (ByteArray)) (b : Int), _
  intro l b ho hx
  dsimp only [C_impl_MakeHash, okPTL, okPT, Ok, Ty.cells, SN.cells, OkL, OkC, okI, ci, cb, cs, cl] at ho
  dsimp only [C_impl_MakeHash, vc, v1, decB, SR.pre] at hx
  have ho1 := hashOk_iff (l := l) (b := b)
  have hno := @mkHash_no l b
  have hye := @mkHash_yes l b
  have hF := @fillF_end b l
  have hN := @fillN_end b l
  have hF0 : ∀ i : Int, -1 ≤ i → i < 0 → fillF b l (i + 1).toNat = firstL b l 0 := fun i g1 g2 => by rw [show (i + 1).toNat = 0 by omega]; exact fillF_zero
  have hN0 : ∀ i : Int, -1 ≤ i → i < 0 → fillN b l (i + 1).toNat = nextL b l 0 := fun i g1 g2 => by rw [show (i + 1).toNat = 0 by omega]; exact fillN_zero
  have hl1 := fun i => @fillF_len b l i
  have hl2 : ∀ i : Int, 0 ≤ i → i < l.length → (fillN b l (i + 1).toNat).length = l.length := fun i g1 g2 => fillN_len (by omega)
  have hb : ∀ s, 0 ≤ hashOf s := fun s => (hashL_bd s.data.toList).1
  have hm0 : ∀ s, 1 ≤ b → 0 ≤ hashOf s % b ∧ hashOf s % b < b := fun s g => ⟨Int.emod_nonneg _ (by omega), Int.emod_lt_of_pos _ (by omega)⟩
  have s1 : ∀ (i : Int) (s : ByteArray), 0 ≤ i → l[i.toNat]? = some s → 1 ≤ b → (fillF b l (i + 1).toNat).set (hashOf s % b).toNat i = fillF b l i.toNat := fun i s g1 g2 g3 => by
    have := fillF_set (b := b) g2 (by omega)
    rw [Int.toNat_of_nonneg g1] at this
    rw [show (i + 1).toNat = i.toNat + 1 by omega]
    exact this
  have s2 : ∀ (i : Int) (s : ByteArray) (x : Int), 0 ≤ i → l[i.toNat]? = some s → (fillF b l (i + 1).toNat)[(hashOf s % b).toNat]? = some x → 1 ≤ b → (fillN b l (i + 1).toNat).set i.toNat x = fillN b l i.toNat := fun i s x g1 g2 g4 g3 => by
    rw [show (i + 1).toNat = i.toNat + 1 by omega] at g4 ⊢
    exact fillN_set g2 g4 (by omega)
  have hs := sortU_len l
  simp only [decide_eq_true_eq, decide_eq_false_iff_not, Bool.not_eq_true', Bool.not_eq_false', and_true, true_and, Int.toNat_natCast, exists_eq_left', exists_eq_left, exists_and_left, Int.not_lt, Int.not_le, Bool.false_eq_true, false_implies, implies_true, forall_const, List.length_append, List.length_cons, List.length_nil, Int.sub_add_cancel, Int.add_sub_cancel, and_imp, get_set_iff, forall_eq', forall_eq, List.set_set, mkd_get, mkd_len, List.length_set, Option.some.injEq]; (repeat' first | intro _ | apply And.intro); all_goals (try omega)
  all_goals first | exact hF.symm | exact hN.symm | grind
theorem hash_rs {k : Int} (g : 0 ≤ k) : List.replicate k.toNat (-1 : Int) ++ [-1] = List.replicate (k + 1).toNat (-1) := by rw [show (k + 1).toNat = k.toNat + 1 by omega, List.replicate_succ']
theorem hash_kk {l : List ByteArray} {b k : Int} (g : (l.length : Int) ≤ k) (g1 : 1 ≤ b) (g2 : b ≤ 8) (g3 : (l.length : Int) ≤ 40) (g4 : (l.take k.toNat).Nodup) (g5 : (l.take k.toNat).all nameB = true) : hashOk l b = true := by
  rw [List.take_of_length_le (by omega)] at g4 g5
  exact hashOk_iff.2 ⟨⟨g3, g1, g2⟩, g5, g4⟩
theorem hash_re {l : List ByteArray} {b k : Int} (g1 : (l.length : Int) ≤ k) (g2 : k ≤ l.length) : List.replicate k.toNat (-1) = fillN b l l.length := by rw [show k.toNat = l.length by omega]; exact fillN_end.symm
def C_spec_MakeHash : Con := { ps := [.ro (.list .str), .ro .i], out := fun x => let l : List (ByteArray) := x.1; let b : Int := x.2.1; newS .hash (mkHash l b), det := true }
def G_spec_MakeHash : Cfg := mkG (tyL [(3, .i), (5, .u), (4, .bool), (9, .str), (80, .int .u64), (26, .st .hash), (24, .list .i), (22, .list .str), (38, .list .u), (33, .st .hash)]) [(29, C_spec_l1In), (30, C_spec_NameValid), (31, C_spec_HashOf)] false
def an_spec_MakeHash : PTL C_spec_MakeHash.ps → Nat → Option Ann := fun x kk_ => let l : List (ByteArray) := x.1; let b : Int := x.2.1; if kk_ = 5 then some (.all (Int) fun k => .giv (1 ≤ b ∧ b ≤ 8 ∧ (l.length : Int) ≤ 40 ∧ 0 ≤ k ∧ k ≤ l.length ∧ (l.take k.toNat).Nodup ∧ (l.take k.toNat).all nameB = true) (.mk [(4, aref 30), (5, aref 31), (6, ai k), (0, al .str l), (1, ai b)] [(30, .box false [.nil, .nil, .nil]), (31, .box false [.nil, .nil, .nil])] ((l.length - k.toNat)))) else if kk_ = 2008 then some (.all (Int) fun k => .all (Int) fun j => .giv (1 ≤ b ∧ b ≤ 8 ∧ (l.length : Int) ≤ 40 ∧ 0 ≤ k ∧ k < l.length ∧ 0 ≤ j ∧ j ≤ k ∧ (l.take k.toNat).Nodup ∧ (l.take k.toNat).all nameB = true ∧ (∀ s, l[k.toNat]? = some s → ∀ x ∈ l.take j.toNat, x ≠ s)) (.mk [(4, aref 30), (5, aref 31), (6, ai k), (7, ai j), (0, al .str l), (1, ai b)] [(30, .box false [.nil, .nil, .nil]), (31, .box false [.nil, .nil, .nil])] ((l.length - k.toNat) * 1000 + (k - j).toNat))) else if kk_ = 16 then some (.all (Int) fun k => .giv (hashOk l b = true ∧ 0 ≤ k ∧ k ≤ b) (.mk [(4, aref 30), (5, aref 31), (8, ai k), (0, al .str l), (1, ai b)] [(30, .box false [.nil, .nil, .nil]), (31, .box false [.sl 32 [], .sl 33 [], .nil]), (32, .row none .str l true), (33, .row (some 3) .i (List.replicate k.toNat (-1)) true)] ((b - k).toNat))) else if kk_ = 20 then some (.all (Int) fun k => .giv (hashOk l b = true ∧ 0 ≤ k ∧ k ≤ l.length) (.mk [(4, aref 30), (5, aref 31), (9, ai k), (0, al .str l), (1, ai b)] [(30, .box false [.nil, .nil, .nil]), (31, .box false [.sl 32 [], .sl 33 [], .sl 34 []]), (32, .row none .str l true), (33, .row none .i (List.replicate b.toNat (-1)) true), (34, .row (some 3) .i (List.replicate k.toNat (-1)) true)] ((l.length - k.toNat)))) else if kk_ = 24 then some (.all (Int) fun k => .giv (hashOk l b = true ∧ -1 ≤ k ∧ k < l.length) (.mk [(4, aref 30), (5, aref 31), (10, ai k), (0, al .str l), (1, ai b)] [(30, .box false [.nil, .nil, .nil]), (31, .box false [.sl 32 [], .sl 33 [], .sl 34 []]), (32, .row none .str l true), (33, .row none .i (fillF b l (k + 1).toNat) true), (34, .row none .i (fillN b l (k + 1).toNat) true)] ((k + 1).toNat))) else none
set_option maxRecDepth 200000 in
theorem vc_spec_MakeHash (l : List (ByteArray)) (b : Int) : (keeps Try.prog G_spec_MakeHash (an_spec_MakeHash (l, b, ())) (Try.f10.body.getD .skip) Try.f10.results.toList C_spec_MakeHash (l, b, ())) = (((((Bool.not (decide (((1 : Int) ≤ b) ∧
 (b ≤ (8 : Int))))) = true) →
 ((@Eq (List ByteArray) ([] : List ByteArray) (HashT.names (mkHash l b))) ∧
 ((@Eq (List Int) ([] : List Int) (HashT.first (mkHash l b))) ∧
 ((@Eq (List Int) ([] : List Int) (HashT.next (mkHash l b))) ∧
 True)))) ∧
 (((Bool.not (decide (((1 : Int) ≤ b) ∧
 (b ≤ (8 : Int))))) = false) →
 (((List.length l) ≤ (9223372036854775807 : Nat)) →
 ((((decide ((40 : Int) < (@Nat.cast Int _ (List.length l)))) = true) →
 ((@Eq (List ByteArray) ([] : List ByteArray) (HashT.names (mkHash l b))) ∧
 ((@Eq (List Int) ([] : List Int) (HashT.first (mkHash l b))) ∧
 ((@Eq (List Int) ([] : List Int) (HashT.next (mkHash l b))) ∧
 True)))) ∧
 (((decide ((40 : Int) < (@Nat.cast Int _ (List.length l)))) = false) →
 ((∃ (x_1 : Int), (((0 : Int) = x_1) ∧
 ((@Eq (List ByteArray) l l) ∧
 ((b = b) ∧
 ((((1 : Int) ≤ b) ∧
 ((b ≤ (8 : Int)) ∧
 (((@Nat.cast Int _ (List.length l)) ≤ (40 : Int)) ∧
 (((0 : Int) ≤ x_1) ∧
 ((x_1 ≤ (@Nat.cast Int _ (List.length l))) ∧
 ((@List.Pairwise ByteArray (fun (x1_2 : ByteArray) => (fun (x2_3 : ByteArray) => (x1_2 ≠ x2_3))) (List.take (Int.toNat x_1) l)) ∧
 ((@List.all ByteArray (List.take (Int.toNat x_1) l) nameB) = true))))))) ∧
 True))))) ∧
 (∀ (x_4 : Int), ((((1 : Int) ≤ b) ∧
 ((b ≤ (8 : Int)) ∧
 (((@Nat.cast Int _ (List.length l)) ≤ (40 : Int)) ∧
 (((0 : Int) ≤ x_4) ∧
 ((x_4 ≤ (@Nat.cast Int _ (List.length l))) ∧
 ((@List.Pairwise ByteArray (fun (x1_5 : ByteArray) => (fun (x2_6 : ByteArray) => (x1_5 ≠ x2_6))) (List.take (Int.toNat x_4) l)) ∧
 ((@List.all ByteArray (List.take (Int.toNat x_4) l) nameB) = true))))))) →
 (((List.length l) ≤ (9223372036854775807 : Nat)) →
 ((((decide (x_4 < (@Nat.cast Int _ (List.length l)))) = true) →
 (∃ (x_7 : Int), (∃ (x_8 : Int), ((x_4 = x_7) ∧
 (((0 : Int) = x_8) ∧
 ((@Eq (List ByteArray) l l) ∧
 ((b = b) ∧
 ((((1 : Int) ≤ b) ∧
 ((b ≤ (8 : Int)) ∧
 (((@Nat.cast Int _ (List.length l)) ≤ (40 : Int)) ∧
 (((0 : Int) ≤ x_7) ∧
 ((x_7 < (@Nat.cast Int _ (List.length l))) ∧
 (((0 : Int) ≤ x_8) ∧
 ((x_8 ≤ x_7) ∧
 ((@List.Pairwise ByteArray (fun (x1_9 : ByteArray) => (fun (x2_10 : ByteArray) => (x1_9 ≠ x2_10))) (List.take (Int.toNat x_7) l)) ∧
 (((@List.all ByteArray (List.take (Int.toNat x_7) l) nameB) = true) ∧
 (∀ (s_11 : ByteArray), ((@Eq (Option ByteArray) (l)[(Int.toNat x_7)]? (some s_11)) →
 (∀ (x_12 : ByteArray), ((@List.Mem ByteArray x_12 (List.take (Int.toNat x_8) l)) →
 (x_12 ≠ s_11)))))))))))))) ∧
 (∀ (x_13 : Int), (∀ (x_14 : Int), ((((1 : Int) ≤ b) ∧
 ((b ≤ (8 : Int)) ∧
 (((@Nat.cast Int _ (List.length l)) ≤ (40 : Int)) ∧
 (((0 : Int) ≤ x_13) ∧
 ((x_13 < (@Nat.cast Int _ (List.length l))) ∧
 (((0 : Int) ≤ x_14) ∧
 ((x_14 ≤ x_13) ∧
 ((@List.Pairwise ByteArray (fun (x1_15 : ByteArray) => (fun (x2_16 : ByteArray) => (x1_15 ≠ x2_16))) (List.take (Int.toNat x_13) l)) ∧
 (((@List.all ByteArray (List.take (Int.toNat x_13) l) nameB) = true) ∧
 (∀ (s_17 : ByteArray), ((@Eq (Option ByteArray) (l)[(Int.toNat x_13)]? (some s_17)) →
 (∀ (x_18 : ByteArray), ((@List.Mem ByteArray x_18 (List.take (Int.toNat x_14) l)) →
 (x_18 ≠ s_17)))))))))))))) →
 ((((((List.length l) - (Int.toNat x_13)) * (1000 : Nat)) + (Int.toNat (x_13 - x_14))) ≤ ((((List.length l) - (Int.toNat x_7)) * (1000 : Nat)) + (Int.toNat (x_7 - x_8)))) →
 ((((decide (x_14 < x_13)) = true) →
 ((((0 : Int) ≤ x_14) ∧
 (x_14 < (@Nat.cast Int _ (List.length l)))) ∧
 (∀ (x_19 : ByteArray), ((@Eq (Option ByteArray) (l)[(Int.toNat x_14)]? (some x_19)) →
 ((Ok Ty.str x_19) →
 ((((0 : Int) ≤ x_13) ∧
 (x_13 < (@Nat.cast Int _ (List.length l)))) ∧
 (∀ (x_20 : ByteArray), ((@Eq (Option ByteArray) (l)[(Int.toNat x_13)]? (some x_20)) →
 ((Ok Ty.str x_20) →
 ((((decide (@Eq ByteArray x_19 x_20)) = true) →
 ((@Eq (List ByteArray) ([] : List ByteArray) (HashT.names (mkHash l b))) ∧
 ((@Eq (List Int) ([] : List Int) (HashT.first (mkHash l b))) ∧
 ((@Eq (List Int) ([] : List Int) (HashT.next (mkHash l b))) ∧
 True)))) ∧
 (((decide (@Eq ByteArray x_19 x_20)) = false) →
 ((((- (9223372036854775808 : Int)) ≤ (x_14 + (1 : Int))) ∧
 ((x_14 + (1 : Int)) ≤ (9223372036854775807 : Int))) ∧
 (∃ (x_21 : Int), (∃ (x_22 : Int), ((x_13 = x_21) ∧
 (((x_14 + (1 : Int)) = x_22) ∧
 ((@Eq (List ByteArray) l l) ∧
 ((b = b) ∧
 ((((1 : Int) ≤ b) ∧
 ((b ≤ (8 : Int)) ∧
 (((@Nat.cast Int _ (List.length l)) ≤ (40 : Int)) ∧
 (((0 : Int) ≤ x_21) ∧
 ((x_21 < (@Nat.cast Int _ (List.length l))) ∧
 (((0 : Int) ≤ x_22) ∧
 ((x_22 ≤ x_21) ∧
 ((@List.Pairwise ByteArray (fun (x1_23 : ByteArray) => (fun (x2_24 : ByteArray) => (x1_23 ≠ x2_24))) (List.take (Int.toNat x_21) l)) ∧
 (((@List.all ByteArray (List.take (Int.toNat x_21) l) nameB) = true) ∧
 (∀ (s_25 : ByteArray), ((@Eq (Option ByteArray) (l)[(Int.toNat x_21)]? (some s_25)) →
 (∀ (x_26 : ByteArray), ((@List.Mem ByteArray x_26 (List.take (Int.toNat x_22) l)) →
 (x_26 ≠ s_25)))))))))))))) ∧
 (((((List.length l) - (Int.toNat x_21)) * (1000 : Nat)) + (Int.toNat (x_21 - x_22))) < ((((List.length l) - (Int.toNat x_13)) * (1000 : Nat)) + (Int.toNat (x_13 - x_14))))))))))))))))))))))) ∧
 (((decide (x_14 < x_13)) = false) →
 ((((0 : Int) ≤ x_13) ∧
 (x_13 < (@Nat.cast Int _ (List.length l)))) ∧
 (∀ (x_27 : ByteArray), ((@Eq (Option ByteArray) (l)[(Int.toNat x_13)]? (some x_27)) →
 ((Ok Ty.str x_27) →
 ((((Bool.not (nameB x_27)) = true) →
 ((@Eq (List ByteArray) ([] : List ByteArray) (HashT.names (mkHash l b))) ∧
 ((@Eq (List Int) ([] : List Int) (HashT.first (mkHash l b))) ∧
 ((@Eq (List Int) ([] : List Int) (HashT.next (mkHash l b))) ∧
 True)))) ∧
 (((Bool.not (nameB x_27)) = false) →
 ((((- (9223372036854775808 : Int)) ≤ (x_13 + (1 : Int))) ∧
 ((x_13 + (1 : Int)) ≤ (9223372036854775807 : Int))) ∧
 (∃ (x_28 : Int), (((x_13 + (1 : Int)) = x_28) ∧
 ((@Eq (List ByteArray) l l) ∧
 ((b = b) ∧
 ((((1 : Int) ≤ b) ∧
 ((b ≤ (8 : Int)) ∧
 (((@Nat.cast Int _ (List.length l)) ≤ (40 : Int)) ∧
 (((0 : Int) ≤ x_28) ∧
 ((x_28 ≤ (@Nat.cast Int _ (List.length l))) ∧
 ((@List.Pairwise ByteArray (fun (x1_29 : ByteArray) => (fun (x2_30 : ByteArray) => (x1_29 ≠ x2_30))) (List.take (Int.toNat x_28) l)) ∧
 ((@List.all ByteArray (List.take (Int.toNat x_28) l) nameB) = true))))))) ∧
 (((List.length l) - (Int.toNat x_28)) < ((List.length l) - (Int.toNat x_4))))))))))))))))))))))))))))) ∧
 (((decide (x_4 < (@Nat.cast Int _ (List.length l)))) = false) →
 ((((((0 : Nat) + (List.length l)) * (16 : Nat)) ≤ (140737488355328 : Nat)) ∧
 (((0 : Nat) + (List.length l)) ≤ (1000000000000 : Nat))) ∧
 ((∃ (x_31 : Int), (((0 : Int) = x_31) ∧
 ((@Eq (List ByteArray) l l) ∧
 ((b = b) ∧
 ((@Eq (List ByteArray) l l) ∧
 ((@Eq (List Int) ([] : List Int) (@List.replicate Int (Int.toNat x_31) (- (1 : (Ty.den Ty.i))))) ∧
 ((((hashOk l b) = true) ∧
 (((0 : Int) ≤ x_31) ∧
 (x_31 ≤ b))) ∧
 True))))))) ∧
 (∀ (x_32 : Int), ((((hashOk l b) = true) ∧
 (((0 : Int) ≤ x_32) ∧
 (x_32 ≤ b))) →
 ((((decide (x_32 < b)) = true) →
 ((((((List.length (@List.replicate Int (Int.toNat x_32) (- (1 : (Ty.den Ty.i))))) + (1 : Nat)) * (8 : Nat)) ≤ (140737488355328 : Nat)) ∧
 (((List.length (@List.replicate Int (Int.toNat x_32) (- (1 : (Ty.den Ty.i))))) + (1 : Nat)) ≤ (1000000000000 : Nat))) ∧
 ((((- (9223372036854775808 : Int)) ≤ (x_32 + (1 : Int))) ∧
 ((x_32 + (1 : Int)) ≤ (9223372036854775807 : Int))) ∧
 (∃ (x_33 : Int), (((x_32 + (1 : Int)) = x_33) ∧
 ((@Eq (List ByteArray) l l) ∧
 ((b = b) ∧
 ((@Eq (List ByteArray) l l) ∧
 ((@Eq (List Int) ((@List.replicate Int (Int.toNat x_32) (- (1 : (Ty.den Ty.i)))) ++ [(- (1 : Int))]) (@List.replicate Int (Int.toNat x_33) (- (1 : (Ty.den Ty.i))))) ∧
 ((((hashOk l b) = true) ∧
 (((0 : Int) ≤ x_33) ∧
 (x_33 ≤ b))) ∧
 ((Int.toNat (b - x_33)) < (Int.toNat (b - x_32))))))))))))) ∧
 (((decide (x_32 < b)) = false) →
 ((∃ (x_34 : Int), (((0 : Int) = x_34) ∧
 ((@Eq (List ByteArray) l l) ∧
 ((b = b) ∧
 ((@Eq (List ByteArray) l l) ∧
 ((@Eq (List Int) (@List.replicate Int (Int.toNat x_32) (- (1 : (Ty.den Ty.i)))) (@List.replicate Int (Int.toNat b) (- (1 : (Ty.den Ty.i))))) ∧
 ((@Eq (List Int) ([] : List Int) (@List.replicate Int (Int.toNat x_34) (- (1 : (Ty.den Ty.i))))) ∧
 ((((hashOk l b) = true) ∧
 (((0 : Int) ≤ x_34) ∧
 (x_34 ≤ (@Nat.cast Int _ (List.length l))))) ∧
 True)))))))) ∧
 (∀ (x_35 : Int), ((((hashOk l b) = true) ∧
 (((0 : Int) ≤ x_35) ∧
 (x_35 ≤ (@Nat.cast Int _ (List.length l))))) →
 (((List.length l) ≤ (9223372036854775807 : Nat)) →
 ((((decide (x_35 < (@Nat.cast Int _ (List.length l)))) = true) →
 ((((((List.length (@List.replicate Int (Int.toNat x_35) (- (1 : (Ty.den Ty.i))))) + (1 : Nat)) * (8 : Nat)) ≤ (140737488355328 : Nat)) ∧
 (((List.length (@List.replicate Int (Int.toNat x_35) (- (1 : (Ty.den Ty.i))))) + (1 : Nat)) ≤ (1000000000000 : Nat))) ∧
 ((((- (9223372036854775808 : Int)) ≤ (x_35 + (1 : Int))) ∧
 ((x_35 + (1 : Int)) ≤ (9223372036854775807 : Int))) ∧
 (∃ (x_36 : Int), (((x_35 + (1 : Int)) = x_36) ∧
 ((@Eq (List ByteArray) l l) ∧
 ((b = b) ∧
 ((@Eq (List ByteArray) l l) ∧
 ((@Eq (List Int) (@List.replicate Int (Int.toNat b) (- (1 : (Ty.den Ty.i)))) (@List.replicate Int (Int.toNat b) (- (1 : (Ty.den Ty.i))))) ∧
 ((@Eq (List Int) ((@List.replicate Int (Int.toNat x_35) (- (1 : (Ty.den Ty.i)))) ++ [(- (1 : Int))]) (@List.replicate Int (Int.toNat x_36) (- (1 : (Ty.den Ty.i))))) ∧
 ((((hashOk l b) = true) ∧
 (((0 : Int) ≤ x_36) ∧
 (x_36 ≤ (@Nat.cast Int _ (List.length l))))) ∧
 (((List.length l) - (Int.toNat x_36)) < ((List.length l) - (Int.toNat x_35)))))))))))))) ∧
 (((decide (x_35 < (@Nat.cast Int _ (List.length l)))) = false) →
 (((List.length l) ≤ (9223372036854775807 : Nat)) →
 ((((- (9223372036854775808 : Int)) ≤ ((@Nat.cast Int _ (List.length l)) - (1 : Int))) ∧
 (((@Nat.cast Int _ (List.length l)) - (1 : Int)) ≤ (9223372036854775807 : Int))) ∧
 ((∃ (x_37 : Int), ((((@Nat.cast Int _ (List.length l)) - (1 : Int)) = x_37) ∧
 ((@Eq (List ByteArray) l l) ∧
 ((b = b) ∧
 ((@Eq (List ByteArray) l l) ∧
 ((@Eq (List Int) (@List.replicate Int (Int.toNat b) (- (1 : (Ty.den Ty.i)))) (fillF b l (Int.toNat (x_37 + (1 : Int))))) ∧
 ((@Eq (List Int) (@List.replicate Int (Int.toNat x_35) (- (1 : (Ty.den Ty.i)))) (fillN b l (Int.toNat (x_37 + (1 : Int))))) ∧
 ((((hashOk l b) = true) ∧
 (((- (1 : Int)) ≤ x_37) ∧
 (x_37 < (@Nat.cast Int _ (List.length l))))) ∧
 True)))))))) ∧
 (∀ (x_38 : Int), ((((hashOk l b) = true) ∧
 (((- (1 : Int)) ≤ x_38) ∧
 (x_38 < (@Nat.cast Int _ (List.length l))))) →
 ((((decide ((0 : Int) ≤ x_38)) = true) →
 ((((0 : Int) ≤ x_38) ∧
 (x_38 < (@Nat.cast Int _ (List.length l)))) ∧
 (∀ (x_39 : ByteArray), ((@Eq (Option ByteArray) (l)[(Int.toNat x_38)]? (some x_39)) →
 ((Ok Ty.str x_39) →
 ((((0 : Int) ≤ (hashOf x_39)) ∧
 ((0 : Int) < b)) ∧
 ((((0 : Int) ≤ ((hashOf x_39) % b)) ∧
 (((hashOf x_39) % b) < (@Nat.cast Int _ (List.length (fillF b l (Int.toNat (x_38 + (1 : Int)))))))) ∧
 (∀ (x_40 : Int), ((@Eq (Option Int) ((fillF b l (Int.toNat (x_38 + (1 : Int)))))[(Int.toNat ((hashOf x_39) % b))]? (some x_40)) →
 ((Ok (Ty.int IntKind.i64) x_40) →
 ((((0 : Int) ≤ x_38) ∧
 (x_38 < (@Nat.cast Int _ (List.length (fillN b l (Int.toNat (x_38 + (1 : Int)))))))) ∧
 (∀ (x_41 : Int), ((@Eq (Option Int) ((fillN b l (Int.toNat (x_38 + (1 : Int)))))[(Int.toNat x_38)]? (some x_41)) →
 ((((0 : Int) ≤ ((hashOf x_39) % b)) ∧
 (((hashOf x_39) % b) < (@Nat.cast Int _ (List.length (fillF b l (Int.toNat (x_38 + (1 : Int)))))))) ∧
 (∀ (x_42 : Int), ((@Eq (Option Int) ((fillF b l (Int.toNat (x_38 + (1 : Int)))))[(Int.toNat ((hashOf x_39) % b))]? (some x_42)) →
 ((((- (9223372036854775808 : Int)) ≤ (x_38 - (1 : Int))) ∧
 ((x_38 - (1 : Int)) ≤ (9223372036854775807 : Int))) ∧
 (∃ (x_43 : Int), (((x_38 - (1 : Int)) = x_43) ∧
 ((@Eq (List ByteArray) l l) ∧
 ((b = b) ∧
 ((@Eq (List ByteArray) l l) ∧
 ((@Eq (List Int) (List.set (fillF b l (Int.toNat (x_38 + (1 : Int)))) (Int.toNat ((hashOf x_39) % b)) x_38) (fillF b l (Int.toNat (x_43 + (1 : Int))))) ∧
 ((@Eq (List Int) (List.set (fillN b l (Int.toNat (x_38 + (1 : Int)))) (Int.toNat x_38) x_40) (fillN b l (Int.toNat (x_43 + (1 : Int))))) ∧
 ((((hashOk l b) = true) ∧
 (((- (1 : Int)) ≤ x_43) ∧
 (x_43 < (@Nat.cast Int _ (List.length l))))) ∧
 ((Int.toNat (x_43 + (1 : Int))) < (Int.toNat (x_38 + (1 : Int))))))))))))))))))))))))))))) ∧
 (((decide ((0 : Int) ≤ x_38)) = false) →
 ((@Eq (List ByteArray) l (HashT.names (mkHash l b))) ∧
 ((@Eq (List Int) (fillF b l (Int.toNat (x_38 + (1 : Int)))) (HashT.first (mkHash l b))) ∧
 ((@Eq (List Int) (fillN b l (Int.toNat (x_38 + (1 : Int)))) (HashT.next (mkHash l b))) ∧
 True)))))))))))))))))))))))))))))))))) := by kernel_rfl
theorem det_spec_MakeHash : C_spec_MakeHash.det = true → ∀ x, (C_spec_MakeHash.out x).Det := fun _ x => by simp only [C_spec_MakeHash]; repeat (first | exact Det.ret _ | exact Det.vc' | apply Det.req | apply Det.giv | apply Det.fork | apply Det.bif' | intro _)
set_option maxRecDepth 200000 in
set_option maxHeartbeats 1000000 in
theorem ok_spec_MakeHash : ConOK Try.prog 10 C_spec_MakeHash := by
  refine con_mk (wr := false) (ty := tyL [(3, .i), (5, .u), (4, .bool), (9, .str), (80, .int .u64), (26, .st .hash), (24, .list .i), (22, .list .str), (38, .list .u), (33, .st .hash)]) (l := [(29, C_spec_l1In), (30, C_spec_NameValid), (31, C_spec_HashOf)]) ⟨⟨ok_spec_l1In, det_spec_l1In⟩, ⟨⟨ok_spec_NameValid, det_spec_NameValid⟩, ⟨⟨ok_spec_HashOf, det_spec_HashOf⟩, trivial⟩⟩⟩ Try.checked.mixed (fn := Try.f10) (body := Try.f10.body.getD .skip) Try.func10 rfl (by decide) (by kernel_rfl) rfl an_spec_MakeHash fun x ho hx => ?_
  obtain ⟨l, b, ⟨⟩⟩ := x
  refine Keeps.of (vc_spec_MakeHash l b) ?_
  revert l b ho hx
  show ∀ (l : List (ByteArray)) (b : Int), _
  intro l b ho hx
  dsimp only [C_spec_MakeHash, okPTL, okPT, Ok, Ty.cells, SN.cells, OkL, OkC, okI, ci, cb, cs, cl] at ho
  dsimp only [C_spec_MakeHash, vc, v1, decB, SR.pre] at hx
  have ho1 := hashOk_iff (l := l) (b := b)
  have hno := @mkHash_no l b
  have hye := @mkHash_yes l b
  have hF := @fillF_end b l
  have hN := @fillN_end b l
  have hF0 : ∀ i : Int, -1 ≤ i → i < 0 → fillF b l (i + 1).toNat = firstL b l 0 := fun i g1 g2 => by rw [show (i + 1).toNat = 0 by omega]; exact fillF_zero
  have hN0 : ∀ i : Int, -1 ≤ i → i < 0 → fillN b l (i + 1).toNat = nextL b l 0 := fun i g1 g2 => by rw [show (i + 1).toNat = 0 by omega]; exact fillN_zero
  have hl1 := fun i => @fillF_len b l i
  have hl2 : ∀ i : Int, 0 ≤ i → i < l.length → (fillN b l (i + 1).toNat).length = l.length := fun i g1 g2 => fillN_len (by omega)
  have hb : ∀ s, 0 ≤ hashOf s := fun s => (hashL_bd s.data.toList).1
  have hm0 : ∀ s, 1 ≤ b → 0 ≤ hashOf s % b ∧ hashOf s % b < b := fun s g => ⟨Int.emod_nonneg _ (by omega), Int.emod_lt_of_pos _ (by omega)⟩
  have s1 : ∀ (i : Int) (s : ByteArray), 0 ≤ i → l[i.toNat]? = some s → 1 ≤ b → (fillF b l (i + 1).toNat).set (hashOf s % b).toNat i = fillF b l i.toNat := fun i s g1 g2 g3 => by
    have := fillF_set (b := b) g2 (by omega)
    rw [Int.toNat_of_nonneg g1] at this
    rw [show (i + 1).toNat = i.toNat + 1 by omega]
    exact this
  have s2 : ∀ (i : Int) (s : ByteArray) (x : Int), 0 ≤ i → l[i.toNat]? = some s → (fillF b l (i + 1).toNat)[(hashOf s % b).toNat]? = some x → 1 ≤ b → (fillN b l (i + 1).toNat).set i.toNat x = fillN b l i.toNat := fun i s x g1 g2 g4 g3 => by
    rw [show (i + 1).toNat = i.toNat + 1 by omega] at g4 ⊢
    exact fillN_set g2 g4 (by omega)
  have hnd := @not_nodup l
  have hna := @not_all l
  have htn : ∀ (k : Int) (s : ByteArray), 0 ≤ k → l[k.toNat]? = some s → (l.take k.toNat).Nodup → (∀ x ∈ l.take k.toNat, x ≠ s) → (l.take (k + 1).toNat).Nodup := fun k s g1 g2 g3 g4 => by rw [show (k + 1).toNat = k.toNat + 1 by omega]; exact take_nodup g2 g3 g4
  have hta : ∀ (k : Int) (s : ByteArray), 0 ≤ k → l[k.toNat]? = some s → (l.take k.toNat).all nameB = true → nameB s = true → (l.take (k + 1).toNat).all nameB = true := fun k s g1 g2 g3 g4 => by rw [show (k + 1).toNat = k.toNat + 1 by omega]; exact take_all_next g2 g3 g4
  have hnl := @not_all
  have hF1 : fillF b l l.length = List.replicate b.toNat (-1) := hF
  simp only [decide_eq_true_eq, decide_eq_false_iff_not, Bool.not_eq_true', Bool.not_eq_false', and_true, true_and, Int.toNat_natCast, exists_eq_left', exists_eq_left, exists_and_left, Int.not_lt, Int.not_le, Bool.false_eq_true, false_implies, implies_true, forall_const, List.length_append, List.length_cons, List.length_nil, Int.sub_add_cancel, Int.add_sub_cancel, and_imp, get_set_iff, forall_eq', forall_eq, List.set_set, mkd_get, mkd_len, List.length_set, Option.some.injEq]; (repeat' first | intro _ | apply And.intro); all_goals (try omega)
  all_goals first | omega | exact hash_rs (by assumption) | exact hash_re (by assumption) (by assumption) | exact hash_kk (by assumption) (by assumption) (by assumption) (by assumption) (by assumption) (by assumption) | exact hF.symm | exact hN.symm | exact List.Pairwise.nil | (simp; done) | (rename_i hm _; exact List.not_mem_nil hm) | (rename_i q10 q9 q8 x19 q7 q6 x20 q5 q4 q3 s25 q2 x26 q1 q0; exact nn_step q10 (by assumption) q7 q5 q3 q2 q1 q0) | (rename_i q7 q6 q5 q4 q3 x27 q2 q1 q0; exact nd_step q5 q3 (by assumption) (by assumption) q2 q7) | grind | skip
def C_impl_HashValid : Con := { ps := [.ro (.st .hash)], out := fun x => let t : HashT := x.1; vc .bool (hashB t), det := true }
def G_impl_HashValid : Cfg := mkG (tyL [(3, .i), (5, .u), (4, .bool), (9, .str), (80, .int .u64), (26, .st .hash), (24, .list .i), (22, .list .str), (38, .list .u), (33, .st .hash)]) [(12, C_impl_MakeHash), (46, C_slices_Equal_int_int)] false
def an_impl_HashValid : PTL C_impl_HashValid.ps → Nat → Option Ann := fun _ _ => none
set_option maxRecDepth 200000 in
theorem vc_impl_HashValid (t : HashT) : (keeps Try.prog G_impl_HashValid (an_impl_HashValid (t, ())) (Try.f21.body.getD .skip) Try.f21.results.toList C_impl_HashValid (t, ())) = ((((List.length (HashT.first t)) ≤ (9223372036854775807 : Nat)) →
 (((List.length (HashT.first t)) ≤ (9223372036854775807 : Nat)) →
 ((((decide ((0 : Int) < (@Nat.cast Int _ (List.length (HashT.first t))))) = true) →
 ((((decide (@Eq (List Int) (HashT.first (mkHash (HashT.names t) (@Nat.cast Int _ (List.length (HashT.first t))))) (HashT.first t))) = true) →
 (((decide (@Eq (List Int) (HashT.next (mkHash (HashT.names t) (@Nat.cast Int _ (List.length (HashT.first t))))) (HashT.next t))) = (hashB t)) ∧
 True)) ∧
 (((decide (@Eq (List Int) (HashT.first (mkHash (HashT.names t) (@Nat.cast Int _ (List.length (HashT.first t))))) (HashT.first t))) = false) →
 ((false = (hashB t)) ∧
 True)))) ∧
 (((decide ((0 : Int) < (@Nat.cast Int _ (List.length (HashT.first t))))) = false) →
 ((false = (hashB t)) ∧
 True)))))) := by kernel_rfl
theorem det_impl_HashValid : C_impl_HashValid.det = true → ∀ x, (C_impl_HashValid.out x).Det := fun _ x => by simp only [C_impl_HashValid]; repeat (first | exact Det.ret _ | exact Det.vc' | apply Det.req | apply Det.giv | apply Det.fork | apply Det.bif' | intro _)
set_option maxRecDepth 200000 in
set_option maxHeartbeats 1000000 in
theorem ok_impl_HashValid : ConOK Try.prog 21 C_impl_HashValid := by
  refine con_mk (wr := false) (ty := tyL [(3, .i), (5, .u), (4, .bool), (9, .str), (80, .int .u64), (26, .st .hash), (24, .list .i), (22, .list .str), (38, .list .u), (33, .st .hash)]) (l := [(12, C_impl_MakeHash), (46, C_slices_Equal_int_int)]) ⟨⟨ok_impl_MakeHash, det_impl_MakeHash⟩, ⟨⟨ok_slices_Equal_int_int, det_slices_Equal_int_int⟩, trivial⟩⟩ Try.checked.mixed (fn := Try.f21) (body := Try.f21.body.getD .skip) Try.func21 rfl (by decide) (by kernel_rfl) rfl an_impl_HashValid fun x ho hx => ?_
  obtain ⟨t, ⟨⟩⟩ := x
  refine Keeps.of (vc_impl_HashValid t) ?_
  revert t ho hx
  show ∀ (t : HashT), _
  intro t ho hx
  dsimp only [C_impl_HashValid, okPTL, okPT, Ok, Ty.cells, SN.cells, OkL, OkC, okI, ci, cb, cs, cl] at ho
  dsimp only [C_impl_HashValid, vc, v1, decB, SR.pre] at hx
  have h := hashB_iff (t := t)
  simp only [decide_eq_true_eq, decide_eq_false_iff_not, Bool.not_eq_true', Bool.not_eq_false', and_true, true_and, Int.toNat_natCast, exists_eq_left', exists_eq_left, exists_and_left, Int.not_lt, Int.not_le, Bool.false_eq_true, false_implies, implies_true, forall_const, List.length_append, List.length_cons, List.length_nil, Int.sub_add_cancel, Int.add_sub_cancel, and_imp, get_set_iff, forall_eq', forall_eq, List.set_set, mkd_get, mkd_len, List.length_set, Option.some.injEq]; (repeat' first | intro _ | apply And.intro); all_goals (try omega); all_goals grind [mkHash_no, mkHash_yes]
def C_spec_HashValid : Con := { ps := [.ro (.st .hash)], out := fun x => let t : HashT := x.1; vc .bool (hashB t), det := true }
def G_spec_HashValid : Cfg := mkG (tyL [(3, .i), (5, .u), (4, .bool), (9, .str), (80, .int .u64), (26, .st .hash), (24, .list .i), (22, .list .str), (38, .list .u), (33, .st .hash)]) [(10, C_spec_MakeHash), (44, C_spec_l18Same)] false
def an_spec_HashValid : PTL C_spec_HashValid.ps → Nat → Option Ann := fun _ _ => none
set_option maxRecDepth 200000 in
theorem vc_spec_HashValid (t : HashT) : (keeps Try.prog G_spec_HashValid (an_spec_HashValid (t, ())) (Try.f19.body.getD .skip) Try.f19.results.toList C_spec_HashValid (t, ())) = ((((List.length (HashT.first t)) ≤ (9223372036854775807 : Nat)) →
 (((List.length (HashT.first t)) ≤ (9223372036854775807 : Nat)) →
 ((((decide ((0 : Int) < (@Nat.cast Int _ (List.length (HashT.first t))))) = true) →
 (((List.length (HashT.first (mkHash (HashT.names t) (@Nat.cast Int _ (List.length (HashT.first t)))))) ≤ (9223372036854775807 : Nat)) →
 ((((decide ((0 : Int) < (@Nat.cast Int _ (List.length (HashT.first (mkHash (HashT.names t) (@Nat.cast Int _ (List.length (HashT.first t))))))))) = true) →
 ((((decide (@Eq (List Int) (HashT.first (mkHash (HashT.names t) (@Nat.cast Int _ (List.length (HashT.first t))))) (HashT.first t))) = true) →
 (((decide (@Eq (List Int) (HashT.next (mkHash (HashT.names t) (@Nat.cast Int _ (List.length (HashT.first t))))) (HashT.next t))) = (hashB t)) ∧
 True)) ∧
 (((decide (@Eq (List Int) (HashT.first (mkHash (HashT.names t) (@Nat.cast Int _ (List.length (HashT.first t))))) (HashT.first t))) = false) →
 ((false = (hashB t)) ∧
 True)))) ∧
 (((decide ((0 : Int) < (@Nat.cast Int _ (List.length (HashT.first (mkHash (HashT.names t) (@Nat.cast Int _ (List.length (HashT.first t))))))))) = false) →
 ((false = (hashB t)) ∧
 True))))) ∧
 (((decide ((0 : Int) < (@Nat.cast Int _ (List.length (HashT.first t))))) = false) →
 ((false = (hashB t)) ∧
 True)))))) := by kernel_rfl
theorem det_spec_HashValid : C_spec_HashValid.det = true → ∀ x, (C_spec_HashValid.out x).Det := fun _ x => by simp only [C_spec_HashValid]; repeat (first | exact Det.ret _ | exact Det.vc' | apply Det.req | apply Det.giv | apply Det.fork | apply Det.bif' | intro _)
set_option maxRecDepth 200000 in
set_option maxHeartbeats 1000000 in
theorem ok_spec_HashValid : ConOK Try.prog 19 C_spec_HashValid := by
  refine con_mk (wr := false) (ty := tyL [(3, .i), (5, .u), (4, .bool), (9, .str), (80, .int .u64), (26, .st .hash), (24, .list .i), (22, .list .str), (38, .list .u), (33, .st .hash)]) (l := [(10, C_spec_MakeHash), (44, C_spec_l18Same)]) ⟨⟨ok_spec_MakeHash, det_spec_MakeHash⟩, ⟨⟨ok_spec_l18Same, det_spec_l18Same⟩, trivial⟩⟩ Try.checked.mixed (fn := Try.f19) (body := Try.f19.body.getD .skip) Try.func19 rfl (by decide) (by kernel_rfl) rfl an_spec_HashValid fun x ho hx => ?_
  obtain ⟨t, ⟨⟩⟩ := x
  refine Keeps.of (vc_spec_HashValid t) ?_
  revert t ho hx
  show ∀ (t : HashT), _
  intro t ho hx
  dsimp only [C_spec_HashValid, okPTL, okPT, Ok, Ty.cells, SN.cells, OkL, OkC, okI, ci, cb, cs, cl] at ho
  dsimp only [C_spec_HashValid, vc, v1, decB, SR.pre] at hx
  have h := hashB_iff (t := t)
  simp only [decide_eq_true_eq, decide_eq_false_iff_not, Bool.not_eq_true', Bool.not_eq_false', and_true, true_and, Int.toNat_natCast, exists_eq_left', exists_eq_left, exists_and_left, Int.not_lt, Int.not_le, Bool.false_eq_true, false_implies, implies_true, forall_const, List.length_append, List.length_cons, List.length_nil, Int.sub_add_cancel, Int.add_sub_cancel, and_imp, get_set_iff, forall_eq', forall_eq, List.set_set, mkd_get, mkd_len, List.length_set, Option.some.injEq]; (repeat' first | intro _ | apply And.intro); all_goals (try omega); all_goals grind [mkHash_no, mkHash_yes]
def C_impl_FindHash : Con := { ps := [.ro (.st .hash), .ro .str], out := fun x => let t : HashT := x.1; let name : ByteArray := x.2.1; .ret { val := .tup [(false, [.c (ci (findH t name).1)]), (false, [.c (ci (findH t name).2)])] }, det := true }
def G_impl_FindHash : Cfg := mkG (tyL [(3, .i), (5, .u), (4, .bool), (9, .str), (80, .int .u64), (26, .st .hash), (24, .list .i), (22, .list .str), (38, .list .u), (33, .st .hash)]) [(21, C_impl_HashValid), (37, C_impl_HashOf)] false
def an_impl_FindHash : PTL C_impl_FindHash.ps → Nat → Option Ann := fun x kk_ => let t : HashT := x.1; let name : ByteArray := x.2.1; if kk_ = 5 then some (.all (Int) fun k => .all (Int) fun n => .giv (hashB t = true ∧ okH t name k ∧ 0 ≤ n ∧ (0 ≤ k → n ≤ k) ∧ n ≤ t.names.length ∧ findH t name = ((restH t name k).1, n + (restH t name k).2)) (.mk [(6, ai n), (7, ai k), (1, ax name), (2, aref 62)] [(62, bx (ast .hash t))] ((decH t.names.length k)))) else none
set_option maxRecDepth 200000 in
theorem vc_impl_FindHash (t : HashT) (name : ByteArray) : (keeps Try.prog G_impl_FindHash (an_impl_FindHash (t, name, ())) (Try.f25.body.getD .skip) Try.f25.results.toList C_impl_FindHash (t, name, ())) = (((((Bool.not (hashB t)) = true) →
 (((- (1 : Int)) = (Prod.fst (findH t name))) ∧
 (((0 : Int) = (Prod.snd (findH t name))) ∧
 True))) ∧
 (((Bool.not (hashB t)) = false) →
 (((List.length (HashT.first t)) ≤ (9223372036854775807 : Nat)) →
 ((((0 : Int) ≤ (hashOf name)) ∧
 ((0 : Int) < (@Nat.cast Int _ (List.length (HashT.first t))))) ∧
 ((((0 : Int) ≤ ((hashOf name) % (@Nat.cast Int _ (List.length (HashT.first t))))) ∧
 (((hashOf name) % (@Nat.cast Int _ (List.length (HashT.first t)))) < (@Nat.cast Int _ (List.length (HashT.first t))))) ∧
 (∀ (x_1 : Int), ((@Eq (Option Int) ((HashT.first t))[(Int.toNat ((hashOf name) % (@Nat.cast Int _ (List.length (HashT.first t)))))]? (some x_1)) →
 ((Ok (Ty.int IntKind.i64) x_1) →
 ((∃ (x_2 : Int), (∃ (x_3 : Int), (((0 : Int) = x_3) ∧
 ((x_1 = x_2) ∧
 ((@Eq ByteArray name name) ∧
 ((@Eq (List ByteArray) (HashT.names t) (HashT.names t)) ∧
 ((@Eq (List Int) (HashT.first t) (HashT.first t)) ∧
 ((@Eq (List Int) (HashT.next t) (HashT.next t)) ∧
 ((((hashB t) = true) ∧
 ((okH t name x_2) ∧
 (((0 : Int) ≤ x_3) ∧
 ((((0 : Int) ≤ x_2) →
 (x_3 ≤ x_2)) ∧
 ((x_3 ≤ (@Nat.cast Int _ (List.length (HashT.names t)))) ∧
 (@Eq (Prod Int Int) (findH t name) (@Prod.mk Int Int (Prod.fst (restH t name x_2)) (x_3 + (Prod.snd (restH t name x_2)))))))))) ∧
 True))))))))) ∧
 (∀ (x_4 : Int), (∀ (x_5 : Int), ((((hashB t) = true) ∧
 ((okH t name x_4) ∧
 (((0 : Int) ≤ x_5) ∧
 ((((0 : Int) ≤ x_4) →
 (x_5 ≤ x_4)) ∧
 ((x_5 ≤ (@Nat.cast Int _ (List.length (HashT.names t)))) ∧
 (@Eq (Prod Int Int) (findH t name) (@Prod.mk Int Int (Prod.fst (restH t name x_4)) (x_5 + (Prod.snd (restH t name x_4)))))))))) →
 ((((decide ((0 : Int) ≤ x_4)) = true) →
 ((((- (9223372036854775808 : Int)) ≤ (x_5 + (1 : Int))) ∧
 ((x_5 + (1 : Int)) ≤ (9223372036854775807 : Int))) ∧
 ((((0 : Int) ≤ x_4) ∧
 (x_4 < (@Nat.cast Int _ (List.length (HashT.names t))))) ∧
 (∀ (x_6 : ByteArray), ((@Eq (Option ByteArray) ((HashT.names t))[(Int.toNat x_4)]? (some x_6)) →
 ((Ok Ty.str x_6) →
 ((((decide (@Eq ByteArray x_6 name)) = true) →
 ((x_4 = (Prod.fst (findH t name))) ∧
 (((x_5 + (1 : Int)) = (Prod.snd (findH t name))) ∧
 True))) ∧
 (((decide (@Eq ByteArray x_6 name)) = false) →
 ((((0 : Int) ≤ x_4) ∧
 (x_4 < (@Nat.cast Int _ (List.length (HashT.next t))))) ∧
 (∀ (x_7 : Int), ((@Eq (Option Int) ((HashT.next t))[(Int.toNat x_4)]? (some x_7)) →
 ((Ok (Ty.int IntKind.i64) x_7) →
 (∃ (x_8 : Int), (∃ (x_9 : Int), (((x_5 + (1 : Int)) = x_9) ∧
 ((x_7 = x_8) ∧
 ((@Eq ByteArray name name) ∧
 ((@Eq (List ByteArray) (HashT.names t) (HashT.names t)) ∧
 ((@Eq (List Int) (HashT.first t) (HashT.first t)) ∧
 ((@Eq (List Int) (HashT.next t) (HashT.next t)) ∧
 ((((hashB t) = true) ∧
 ((okH t name x_8) ∧
 (((0 : Int) ≤ x_9) ∧
 ((((0 : Int) ≤ x_8) →
 (x_9 ≤ x_8)) ∧
 ((x_9 ≤ (@Nat.cast Int _ (List.length (HashT.names t)))) ∧
 (@Eq (Prod Int Int) (findH t name) (@Prod.mk Int Int (Prod.fst (restH t name x_8)) (x_9 + (Prod.snd (restH t name x_8)))))))))) ∧
 ((decH (List.length (HashT.names t)) x_8) < (decH (List.length (HashT.names t)) x_4))))))))))))))))))))))) ∧
 (((decide ((0 : Int) ≤ x_4)) = false) →
 (((- (1 : Int)) = (Prod.fst (findH t name))) ∧
 ((x_5 = (Prod.snd (findH t name))) ∧
 True))))))))))))))))) := by kernel_rfl
theorem det_impl_FindHash : C_impl_FindHash.det = true → ∀ x, (C_impl_FindHash.out x).Det := fun _ x => by simp only [C_impl_FindHash]; repeat (first | exact Det.ret _ | exact Det.vc' | apply Det.req | apply Det.giv | apply Det.fork | apply Det.bif' | intro _)
set_option maxRecDepth 200000 in
set_option maxHeartbeats 1000000 in
theorem ok_impl_FindHash : ConOK Try.prog 25 C_impl_FindHash := by
  refine con_mk (wr := false) (ty := tyL [(3, .i), (5, .u), (4, .bool), (9, .str), (80, .int .u64), (26, .st .hash), (24, .list .i), (22, .list .str), (38, .list .u), (33, .st .hash)]) (l := [(21, C_impl_HashValid), (37, C_impl_HashOf)]) ⟨⟨ok_impl_HashValid, det_impl_HashValid⟩, ⟨⟨ok_impl_HashOf, det_impl_HashOf⟩, trivial⟩⟩ Try.checked.mixed (fn := Try.f25) (body := Try.f25.body.getD .skip) Try.func25 rfl (by decide) (by kernel_rfl) rfl an_impl_FindHash fun x ho hx => ?_
  obtain ⟨t, name, ⟨⟩⟩ := x
  refine Keeps.of (vc_impl_FindHash t name) ?_
  revert t name ho hx
  show ∀ (t : HashT) (name : ByteArray), _
  intro t name ho hx
  dsimp only [C_impl_FindHash, okPTL, okPT, Ok, Ty.cells, SN.cells, OkL, OkC, okI, ci, cb, cs, cl] at ho
  dsimp only [C_impl_FindHash, vc, v1, decB, SR.pre] at hx
  have hbad := @find_bad t name
  have hfst := @find_first t name
  have hhit := @rest_hit t name
  have hend := @rest_end t name
  have hnx := @rest_next t name
  have hB := @hashB_iff t
  have hb : ∀ s, 0 ≤ hashOf s := fun s => (hashL_bd s.data.toList).1
  have hmod : hashB t = true → 0 ≤ hashOf name % (t.first.length : Int) ∧ hashOf name % (t.first.length : Int) < t.first.length := fun h => by have := (hashB_iff.1 h).1; exact ⟨Int.emod_nonneg _ (by omega), Int.emod_lt_of_pos _ (by omega)⟩
  have hnl : hashB t = true → t.next.length = t.names.length := fun h => by rw [← (hashB_iff.1 h).2.2.2, nextL_len]
  simp only [decide_eq_true_eq, decide_eq_false_iff_not, Bool.not_eq_true', Bool.not_eq_false', and_true, true_and, Int.toNat_natCast, exists_eq_left', exists_eq_left, exists_and_left, Int.not_lt, Int.not_le, Bool.false_eq_true, false_implies, implies_true, forall_const, List.length_append, List.length_cons, List.length_nil, Int.sub_add_cancel, Int.add_sub_cancel, and_imp, get_set_iff, forall_eq', forall_eq, List.set_set, mkd_get, mkd_len, List.length_set, Option.some.injEq]; (repeat' first | intro _ | apply And.intro); all_goals (try omega)
  all_goals first | omega | exact (hmod (by assumption)).1 | exact (hmod (by assumption)).2 | (have h1 := hnl (by assumption); have h2 := lt_of_some (by assumption : t.names[_]? = some _); omega) | (have h1 := (hnx (by assumption) (by assumption) (by assumption) (by assumption) (by assumption) (by assumption)).2.2; have h2 := lt_of_some (by assumption : t.names[_]? = some _); exact decH_lt h1 (by assumption) (by omega)) | grind [decH, okH] | skip
def C_spec_FindHash : Con := { ps := [.ro (.st .hash), .ro .str], out := fun x => let t : HashT := x.1; let name : ByteArray := x.2.1; .ret { val := .tup [(false, [.c (ci (findH t name).1)]), (false, [.c (ci (findH t name).2)])] }, det := true }
def G_spec_FindHash : Cfg := mkG (tyL [(3, .i), (5, .u), (4, .bool), (9, .str), (80, .int .u64), (26, .st .hash), (24, .list .i), (22, .list .str), (38, .list .u), (33, .st .hash)]) [(19, C_spec_HashValid), (31, C_spec_HashOf)] false
def an_spec_FindHash : PTL C_spec_FindHash.ps → Nat → Option Ann := fun x kk_ => let t : HashT := x.1; let name : ByteArray := x.2.1; if kk_ = 5 then some (.all (Int) fun k => .all (Int) fun n => .giv (hashB t = true ∧ okH t name k ∧ 0 ≤ n ∧ (0 ≤ k → n ≤ k) ∧ n ≤ t.names.length ∧ findH t name = ((restH t name k).1, n + (restH t name k).2)) (.mk [(6, ai n), (7, ai k), (1, ax name), (2, aref 62)] [(62, bx (ast .hash t))] ((decH t.names.length k)))) else none
set_option maxRecDepth 200000 in
theorem vc_spec_FindHash (t : HashT) (name : ByteArray) : (keeps Try.prog G_spec_FindHash (an_spec_FindHash (t, name, ())) (Try.f28.body.getD .skip) Try.f28.results.toList C_spec_FindHash (t, name, ())) = (((((Bool.not (hashB t)) = true) →
 (((- (1 : Int)) = (Prod.fst (findH t name))) ∧
 (((0 : Int) = (Prod.snd (findH t name))) ∧
 True))) ∧
 (((Bool.not (hashB t)) = false) →
 (((List.length (HashT.first t)) ≤ (9223372036854775807 : Nat)) →
 ((((0 : Int) ≤ (hashOf name)) ∧
 ((0 : Int) < (@Nat.cast Int _ (List.length (HashT.first t))))) ∧
 ((((0 : Int) ≤ ((hashOf name) % (@Nat.cast Int _ (List.length (HashT.first t))))) ∧
 (((hashOf name) % (@Nat.cast Int _ (List.length (HashT.first t)))) < (@Nat.cast Int _ (List.length (HashT.first t))))) ∧
 (∀ (x_1 : Int), ((@Eq (Option Int) ((HashT.first t))[(Int.toNat ((hashOf name) % (@Nat.cast Int _ (List.length (HashT.first t)))))]? (some x_1)) →
 ((Ok (Ty.int IntKind.i64) x_1) →
 ((∃ (x_2 : Int), (∃ (x_3 : Int), (((0 : Int) = x_3) ∧
 ((x_1 = x_2) ∧
 ((@Eq ByteArray name name) ∧
 ((@Eq (List ByteArray) (HashT.names t) (HashT.names t)) ∧
 ((@Eq (List Int) (HashT.first t) (HashT.first t)) ∧
 ((@Eq (List Int) (HashT.next t) (HashT.next t)) ∧
 ((((hashB t) = true) ∧
 ((okH t name x_2) ∧
 (((0 : Int) ≤ x_3) ∧
 ((((0 : Int) ≤ x_2) →
 (x_3 ≤ x_2)) ∧
 ((x_3 ≤ (@Nat.cast Int _ (List.length (HashT.names t)))) ∧
 (@Eq (Prod Int Int) (findH t name) (@Prod.mk Int Int (Prod.fst (restH t name x_2)) (x_3 + (Prod.snd (restH t name x_2)))))))))) ∧
 True))))))))) ∧
 (∀ (x_4 : Int), (∀ (x_5 : Int), ((((hashB t) = true) ∧
 ((okH t name x_4) ∧
 (((0 : Int) ≤ x_5) ∧
 ((((0 : Int) ≤ x_4) →
 (x_5 ≤ x_4)) ∧
 ((x_5 ≤ (@Nat.cast Int _ (List.length (HashT.names t)))) ∧
 (@Eq (Prod Int Int) (findH t name) (@Prod.mk Int Int (Prod.fst (restH t name x_4)) (x_5 + (Prod.snd (restH t name x_4)))))))))) →
 ((((decide ((0 : Int) ≤ x_4)) = true) →
 ((((- (9223372036854775808 : Int)) ≤ (x_5 + (1 : Int))) ∧
 ((x_5 + (1 : Int)) ≤ (9223372036854775807 : Int))) ∧
 ((((0 : Int) ≤ x_4) ∧
 (x_4 < (@Nat.cast Int _ (List.length (HashT.names t))))) ∧
 (∀ (x_6 : ByteArray), ((@Eq (Option ByteArray) ((HashT.names t))[(Int.toNat x_4)]? (some x_6)) →
 ((Ok Ty.str x_6) →
 ((((decide (@Eq ByteArray x_6 name)) = true) →
 ((x_4 = (Prod.fst (findH t name))) ∧
 (((x_5 + (1 : Int)) = (Prod.snd (findH t name))) ∧
 True))) ∧
 (((decide (@Eq ByteArray x_6 name)) = false) →
 ((((0 : Int) ≤ x_4) ∧
 (x_4 < (@Nat.cast Int _ (List.length (HashT.next t))))) ∧
 (∀ (x_7 : Int), ((@Eq (Option Int) ((HashT.next t))[(Int.toNat x_4)]? (some x_7)) →
 ((Ok (Ty.int IntKind.i64) x_7) →
 (∃ (x_8 : Int), (∃ (x_9 : Int), (((x_5 + (1 : Int)) = x_9) ∧
 ((x_7 = x_8) ∧
 ((@Eq ByteArray name name) ∧
 ((@Eq (List ByteArray) (HashT.names t) (HashT.names t)) ∧
 ((@Eq (List Int) (HashT.first t) (HashT.first t)) ∧
 ((@Eq (List Int) (HashT.next t) (HashT.next t)) ∧
 ((((hashB t) = true) ∧
 ((okH t name x_8) ∧
 (((0 : Int) ≤ x_9) ∧
 ((((0 : Int) ≤ x_8) →
 (x_9 ≤ x_8)) ∧
 ((x_9 ≤ (@Nat.cast Int _ (List.length (HashT.names t)))) ∧
 (@Eq (Prod Int Int) (findH t name) (@Prod.mk Int Int (Prod.fst (restH t name x_8)) (x_9 + (Prod.snd (restH t name x_8)))))))))) ∧
 ((decH (List.length (HashT.names t)) x_8) < (decH (List.length (HashT.names t)) x_4))))))))))))))))))))))) ∧
 (((decide ((0 : Int) ≤ x_4)) = false) →
 (((- (1 : Int)) = (Prod.fst (findH t name))) ∧
 ((x_5 = (Prod.snd (findH t name))) ∧
 True))))))))))))))))) := by kernel_rfl
theorem det_spec_FindHash : C_spec_FindHash.det = true → ∀ x, (C_spec_FindHash.out x).Det := fun _ x => by simp only [C_spec_FindHash]; repeat (first | exact Det.ret _ | exact Det.vc' | apply Det.req | apply Det.giv | apply Det.fork | apply Det.bif' | intro _)
set_option maxRecDepth 200000 in
set_option maxHeartbeats 1000000 in
theorem ok_spec_FindHash : ConOK Try.prog 28 C_spec_FindHash := by
  refine con_mk (wr := false) (ty := tyL [(3, .i), (5, .u), (4, .bool), (9, .str), (80, .int .u64), (26, .st .hash), (24, .list .i), (22, .list .str), (38, .list .u), (33, .st .hash)]) (l := [(19, C_spec_HashValid), (31, C_spec_HashOf)]) ⟨⟨ok_spec_HashValid, det_spec_HashValid⟩, ⟨⟨ok_spec_HashOf, det_spec_HashOf⟩, trivial⟩⟩ Try.checked.mixed (fn := Try.f28) (body := Try.f28.body.getD .skip) Try.func28 rfl (by decide) (by kernel_rfl) rfl an_spec_FindHash fun x ho hx => ?_
  obtain ⟨t, name, ⟨⟩⟩ := x
  refine Keeps.of (vc_spec_FindHash t name) ?_
  revert t name ho hx
  show ∀ (t : HashT) (name : ByteArray), _
  intro t name ho hx
  dsimp only [C_spec_FindHash, okPTL, okPT, Ok, Ty.cells, SN.cells, OkL, OkC, okI, ci, cb, cs, cl] at ho
  dsimp only [C_spec_FindHash, vc, v1, decB, SR.pre] at hx
  have hbad := @find_bad t name
  have hfst := @find_first t name
  have hhit := @rest_hit t name
  have hend := @rest_end t name
  have hnx := @rest_next t name
  have hB := @hashB_iff t
  have hb : ∀ s, 0 ≤ hashOf s := fun s => (hashL_bd s.data.toList).1
  have hmod : hashB t = true → 0 ≤ hashOf name % (t.first.length : Int) ∧ hashOf name % (t.first.length : Int) < t.first.length := fun h => by have := (hashB_iff.1 h).1; exact ⟨Int.emod_nonneg _ (by omega), Int.emod_lt_of_pos _ (by omega)⟩
  have hnl : hashB t = true → t.next.length = t.names.length := fun h => by rw [← (hashB_iff.1 h).2.2.2, nextL_len]
  simp only [decide_eq_true_eq, decide_eq_false_iff_not, Bool.not_eq_true', Bool.not_eq_false', and_true, true_and, Int.toNat_natCast, exists_eq_left', exists_eq_left, exists_and_left, Int.not_lt, Int.not_le, Bool.false_eq_true, false_implies, implies_true, forall_const, List.length_append, List.length_cons, List.length_nil, Int.sub_add_cancel, Int.add_sub_cancel, and_imp, get_set_iff, forall_eq', forall_eq, List.set_set, mkd_get, mkd_len, List.length_set, Option.some.injEq]; (repeat' first | intro _ | apply And.intro); all_goals (try omega)
  all_goals first | omega | exact (hmod (by assumption)).1 | exact (hmod (by assumption)).2 | (have h1 := hnl (by assumption); have h2 := lt_of_some (by assumption : t.names[_]? = some _); omega) | (have h1 := (hnx (by assumption) (by assumption) (by assumption) (by assumption) (by assumption) (by assumption)).2.2; have h2 := lt_of_some (by assumption : t.names[_]? = some _); exact decH_lt h1 (by assumption) (by omega)) | grind [decH, okH] | skip
end Go.Proofs.Ytjlgnbdncbcnjaa
