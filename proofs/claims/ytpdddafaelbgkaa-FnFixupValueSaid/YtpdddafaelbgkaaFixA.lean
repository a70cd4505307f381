/- Fixups filled in. -/
import Derived.Test.YtpdddafaelbgkaaLib
set_option linter.unusedVariables false
set_option linter.unusedSimpArgs false
namespace Go.Proofs.Ytpdddafaelbgkaa
open Go Go.RowKit


/-- The first k bytes of x are put into b from a place on. -/
def fxFill (b : List Int) (a : Nat) (x : List Int) (k : Nat) : List Int := b.take a ++ x.take k ++ b.drop (a + k)
def fxOk (b : List Int) (p : Int) (f : Fixup) : Bool := decide (0 ≤ p ∧ p ≤ 100000 ∧ fixWide f.kind ≠ 0 ∧ 0 ≤ f.at_ ∧ f.at_ ≤ b.length - fixWide f.kind)
def fxVal (b : List Int) (p : Int) (f : Fixup) (t : Int) : Option Int := if fxOk b p f = true then fixVal f.kind (p + f.at_) t f.add else none
def fxApp (b : List Int) (p : Int) (f : Fixup) (t : Int) : List Int :=
  match fxVal b p f t with
  | some v => fxFill b f.at_.toNat (putN v (fixWide f.kind)) (fixWide f.kind).toNat
  | none => b
theorem fxFill_zero {b x : List Int} {a : Nat} : fxFill b a x 0 = b := by simp [fxFill]
theorem fxFill_len {b x : List Int} {a k : Nat} (h : a + k ≤ b.length) (hx : k ≤ x.length) : (fxFill b a x k).length = b.length := by
  simp [fxFill]; omega
theorem fxFill_set {b x : List Int} {a k : Nat} {y : Int} (h : a + k < b.length) (hx : x[k]? = some y) : (fxFill b a x k).set (a + k) y = fxFill b a x (k + 1) := by
  have hk : k < x.length := lt_of_some hx
  unfold fxFill
  rw [take_snoc hx]
  have e : (b.take a ++ x.take k).length = a + k := by simp; omega
  rw [List.set_append_right _ _ (by omega), e, Nat.sub_self, List.drop_eq_getElem_cons h, List.set_cons_zero]
  simp only [List.append_assoc, List.cons_append, List.nil_append]
  rfl
theorem fixWide_le (k : Int) : fixWide k = 0 ∨ fixWide k = 1 ∨ fixWide k = 2 ∨ fixWide k = 4 := by
  unfold fixWide
  split
  · omega
  · split
    · omega
    · split <;> omega
theorem digs_len : ∀ (k : Nat) (n : Int), (digs k n).length = k := by
  intro k
  induction k with
  | zero => intro n; rfl
  | succ k ih => intro n; simp [digs, ih]
theorem signed_near {x : Int} (h : -128 ≤ x) (h' : x ≤ 127) : signedOf (x % 256) 1 = x := by
  have e : putOk (x % 256) 1 = true := by simp [putOk]; omega
  simp only [signedOf, e, if_true]
  have : (256 : Int) ^ (1 : Int).toNat = 256 := rfl
  rw [this]
  split <;> omega
theorem putN_len {n w : Int} (h : putOk n w = true) : ((putN n w).length : Int) = w := by
  simp only [putN, h, if_true, digs_len]
  simp [putOk] at h
  omega
theorem fix_law {k p t a : Int} (hb : 0 ≤ k ∧ k ≤ 4 ∧ -1 ≤ p ∧ p ≤ 100001 ∧ -200 ≤ t ∧ t ≤ 200000 ∧ -1000 ≤ a ∧ a ≤ 1001) : (fixVal k p t a = none) ∨ (∃ n, fixVal k p t a = some n ∧ (k = 1 → p + 1 + signedOf n 1 = t + a) ∧ (k ≠ 1 → n = t + a ∧ ((putN n (fixWide k)).length : Int) = fixWide k)) := by
  unfold fixVal
  split
  · split
    · split
      · refine .inr ⟨_, rfl, fun _ => ?_, fun h => absurd ‹_› h⟩
        rw [signed_near (by omega) (by omega)]
        omega
      · exact .inl rfl
    · split
      · subst_vars
        split
        · refine .inr ⟨_, rfl, fun h => by omega, fun _ => ⟨rfl, putN_len ?_⟩⟩
          have : (256 : Int) ^ (2 : Int).toNat = 65536 := rfl
          simp [putOk, fixWide]
          omega
        · exact .inl rfl
      · split
        · subst_vars
          split
          · refine .inr ⟨_, rfl, fun h => by omega, fun _ => ⟨rfl, putN_len ?_⟩⟩
            have : (256 : Int) ^ (4 : Int).toNat = 4294967296 := rfl
            simp [putOk, fixWide]
            omega
          · exact .inl rfl
        · exact .inl rfl
  · exact .inl rfl
theorem fixVal_ok {k p t a v : Int} (h : fixVal k p t a = some v) : putOk v (fixWide k) = true := by
  have h256 : (256 : Int) ^ (1 : Int).toNat = 256 := rfl
  have h65 : (256 : Int) ^ (2 : Int).toNat = 65536 := rfl
  have h42 : (256 : Int) ^ (4 : Int).toNat = 4294967296 := rfl
  unfold fixVal at h
  split at h
  · rename_i hc
    split at h
    · split at h
      · injection h with h
        subst_vars
        simp [putOk, fixWide]
        omega
      · cases h
    · split at h
      · subst_vars
        split at h
        · injection h with h
          subst h
          simp [putOk, fixWide]
          omega
        · cases h
      · split at h
        · subst_vars
          split at h
          · injection h with h
            subst h
            simp [putOk, fixWide]
            omega
          · cases h
        · cases h
  · cases h
theorem undigs_digs : ∀ (k : Nat) (n : Int), 0 ≤ n → n < 256 ^ k → undigs (digs k n) = n := by
  intro k
  induction k with
  | zero => intro n h h'; simp at h'; simp [digs, undigs]; omega
  | succ k ih =>
    intro n h h'
    rw [Int.pow_succ] at h'
    simp only [digs, undigs]
    rw [ih (n / 256) (by omega) (by omega)]
    omega
theorem fxApp_some {b : List Int} {p : Int} {f : Fixup} {t v : Int} (h : fxVal b p f t = some v) : fxApp b p f t = fxFill b f.at_.toNat (putN v (fixWide f.kind)) (fixWide f.kind).toNat ∧ 0 ≤ f.at_ ∧ f.at_ + fixWide f.kind ≤ b.length ∧ 1 ≤ fixWide f.kind ∧ fixWide f.kind ≤ 4 ∧ (putN v (fixWide f.kind)).length = (fixWide f.kind).toNat ∧ putOk v (fixWide f.kind) = true ∧ fixVal f.kind (p + f.at_) t f.add = some v ∧ 0 ≤ p ∧ p ≤ 100000 := by
  have e : fxApp b p f t = fxFill b f.at_.toNat (putN v (fixWide f.kind)) (fixWide f.kind).toNat := by rw [fxApp, h]
  unfold fxVal at h
  split at h
  · rename_i hok
    simp only [fxOk, decide_eq_true_eq] at hok
    have hp := fixVal_ok h
    have hl := putN_len hp
    have hw := fixWide_le f.kind
    refine ⟨e, by omega, by omega, by omega, by omega, by omega, hp, h, by omega, by omega⟩
  · cases h
theorem fxApp_none {b : List Int} {p : Int} {f : Fixup} {t : Int} (h : fxVal b p f t = none) : fxApp b p f t = b := by rw [fxApp, h]
theorem fxApp_len {b : List Int} {p : Int} {f : Fixup} {t : Int} : (fxApp b p f t).length = b.length := by
  cases h : fxVal b p f t with
  | none => rw [fxApp_none h]
  | some v =>
    obtain ⟨e, h1, h2, h3, h4, h5, _⟩ := fxApp_some h
    rw [e, fxFill_len (by omega) (by omega)]
theorem fxApp_get {b : List Int} {p : Int} {f : Fixup} {t v : Int} {k : Int} (h : fxVal b p f t = some v) (hk : 0 ≤ k) (ho : k < f.at_ ∨ f.at_ + fixWide f.kind ≤ k) : (fxApp b p f t)[k.toNat]? = b[k.toNat]? := by
  obtain ⟨e, h1, h2, h3, h4, h5, _⟩ := fxApp_some h
  rw [e]
  unfold fxFill
  rcases ho with ho | ho
  · rw [List.append_assoc, List.getElem?_append_left (by simp; omega), List.getElem?_take, if_pos (by omega)]
  · have e1 : (b.take f.at_.toNat ++ (putN v (fixWide f.kind)).take (fixWide f.kind).toNat).length = f.at_.toNat + (fixWide f.kind).toNat := by simp; omega
    rw [List.getElem?_append_right (by omega), e1, List.getElem?_drop]
    congr 1
    omega
theorem fxApp_num {b : List Int} {p : Int} {f : Fixup} {t v : Int} (h : fxVal b p f t = some v) : getN (fxApp b p f t) f.at_ (fixWide f.kind) = v := by
  obtain ⟨e, h1, h2, h3, h4, h5, h6, _⟩ := fxApp_some h
  have hl : ((fxApp b p f t).length : Int) = b.length := by rw [fxApp_len]
  have hg : getOk (fxApp b p f t) f.at_ (fixWide f.kind) = true := by simp only [getOk, decide_eq_true_eq]; omega
  rw [getN, if_pos hg, e]
  have e1 : ((fxFill b f.at_.toNat (putN v (fixWide f.kind)) (fixWide f.kind).toNat).drop f.at_.toNat).take (fixWide f.kind).toNat = putN v (fixWide f.kind) := by
    unfold fxFill
    rw [List.append_assoc, List.drop_append_of_le_length (by simp; omega), List.drop_eq_nil_of_le (by simp; omega), List.nil_append, List.take_append_of_le_length (by simp; omega), List.take_take, List.take_of_length_le (by omega)]
  rw [e1, putN, if_pos h6]
  simp only [putOk, decide_eq_true_eq] at h6
  exact undigs_digs _ _ h6.2.2.1 h6.2.2.2
theorem fxVal_eq (b : List Int) (p : Int) (f : Fixup) (t : Int) : (fxOk b p f = true → fxVal b p f t = fixVal f.kind (p + f.at_) t f.add) ∧ (fxOk b p f = false → fxVal b p f t = none) := by
  constructor
  · intro h; rw [fxVal, if_pos h]
  · intro h; rw [fxVal, if_neg (by simp [h])]
theorem fxApp_copy {b : List Int} {p : Int} {f : Fixup} {t v : Int} (h : fxVal b p f t = some v) : b.take f.at_.toNat ++ (putN v (fixWide f.kind)).take (b.length - f.at_.toNat) ++ b.drop (f.at_.toNat + min (putN v (fixWide f.kind)).length (b.length - f.at_.toNat)) = fxApp b p f t := by
  obtain ⟨e, h1, h2, h3, h4, h5, _⟩ := fxApp_some h
  rw [e]
  unfold fxFill
  rw [h5, Nat.min_eq_left (by omega), List.take_of_length_le (l := putN v (fixWide f.kind)) (i := b.length - f.at_.toNat) (by omega), List.take_of_length_le (l := putN v (fixWide f.kind)) (i := (fixWide f.kind).toNat) (by omega)]
theorem fxFill_set' {b x : List Int} {a k : Int} {y : Int} (ha : 0 ≤ a) (hk : 0 ≤ k) (h : a + k < b.length) (hx : x[k.toNat]? = some y) : (fxFill b a.toNat x k.toNat).set (a + k).toNat y = fxFill b a.toNat x (k + 1).toNat := by
  rw [show (a + k).toNat = a.toNat + k.toNat by omega, show (k + 1).toNat = k.toNat + 1 by omega]
  exact fxFill_set (by omega) hx
def C_impl_ApplyFixup : Con := { ps := [.ro (.list .u), .ro .i, .ro (.st .fixup), .ro .i], out := fun x => let b : List (Int) := x.1; let p : Int := x.2.1; let f : Fixup := x.2.2.1; let t : Int := x.2.2.2.1; .req (b.length ≤ 1048576) (newLB .u (fxApp b p f t) (fxVal b p f t).isSome), det := true }
def G_impl_ApplyFixup : Cfg := mkG (tyL [(3, .i), (5, .u), (4, .bool), (9, .str), (163, .int .u64), (71, .st .fixup), (24, .st .img), (39, .st .region), (35, .st .mem), (30, .st .patch), (94, .st .hash), (92, .list .i), (90, .list .str), (22, .list .u), (67, .st .fixup), (52, .st .img), (149, .st .region), (55, .st .mem), (101, .st .hash)]) [(114, C_slices_Clone_byte_byte), (36, C_impl_FixupWide), (98, C_impl_within), (32, C_impl_FixupValue), (35, C_impl_PutNumber)] false
def an_impl_ApplyFixup : PTL C_impl_ApplyFixup.ps → Nat → Option Ann := fun _ _ => none
set_option maxRecDepth 200000 in
theorem vc_impl_ApplyFixup (b : List (Int)) (p : Int) (f : Fixup) (t : Int) : (keeps Try.prog G_impl_ApplyFixup (an_impl_ApplyFixup (b, p, f, t, ())) (Try.f54.body.getD .skip) Try.f54.results.toList C_impl_ApplyFixup (b, p, f, t, ())) = ((((List.length b) ≤ (1048576 : Nat)) ∧
 ((((Bool.not (decide (((0 : Int) ≤ p) ∧
 (p ≤ (100000 : Int))))) = true) →
 ((false = (@Option.isSome Int (Go.Proofs.Ytpdddafaelbgkaa.fxVal b p f t))) ∧
 ((@Eq (List Int) b (Go.Proofs.Ytpdddafaelbgkaa.fxApp b p f t)) ∧
 True))) ∧
 (((Bool.not (decide (((0 : Int) ≤ p) ∧
 (p ≤ (100000 : Int))))) = false) →
 ((((decide ((Go.Proofs.Ytpdddafaelbgkaa.fixWide (Go.Proofs.Ytpdddafaelbgkaa.Fixup.kind f)) = (0 : Int))) = true) →
 ((false = (@Option.isSome Int (Go.Proofs.Ytpdddafaelbgkaa.fxVal b p f t))) ∧
 ((@Eq (List Int) b (Go.Proofs.Ytpdddafaelbgkaa.fxApp b p f t)) ∧
 True))) ∧
 (((decide ((Go.Proofs.Ytpdddafaelbgkaa.fixWide (Go.Proofs.Ytpdddafaelbgkaa.Fixup.kind f)) = (0 : Int))) = false) →
 (((List.length b) ≤ (9223372036854775807 : Nat)) →
 ((((- (9223372036854775808 : Int)) ≤ ((@Nat.cast Int _ (List.length b)) - (Go.Proofs.Ytpdddafaelbgkaa.fixWide (Go.Proofs.Ytpdddafaelbgkaa.Fixup.kind f)))) ∧
 (((@Nat.cast Int _ (List.length b)) - (Go.Proofs.Ytpdddafaelbgkaa.fixWide (Go.Proofs.Ytpdddafaelbgkaa.Fixup.kind f))) ≤ (9223372036854775807 : Int))) ∧
 ((((Bool.not (decide (((0 : Int) ≤ (Go.Proofs.Ytpdddafaelbgkaa.Fixup.at_ f)) ∧
 ((Go.Proofs.Ytpdddafaelbgkaa.Fixup.at_ f) ≤ ((@Nat.cast Int _ (List.length b)) - (Go.Proofs.Ytpdddafaelbgkaa.fixWide (Go.Proofs.Ytpdddafaelbgkaa.Fixup.kind f))))))) = true) →
 ((false = (@Option.isSome Int (Go.Proofs.Ytpdddafaelbgkaa.fxVal b p f t))) ∧
 ((@Eq (List Int) b (Go.Proofs.Ytpdddafaelbgkaa.fxApp b p f t)) ∧
 True))) ∧
 (((Bool.not (decide (((0 : Int) ≤ (Go.Proofs.Ytpdddafaelbgkaa.Fixup.at_ f)) ∧
 ((Go.Proofs.Ytpdddafaelbgkaa.Fixup.at_ f) ≤ ((@Nat.cast Int _ (List.length b)) - (Go.Proofs.Ytpdddafaelbgkaa.fixWide (Go.Proofs.Ytpdddafaelbgkaa.Fixup.kind f))))))) = false) →
 ((((- (9223372036854775808 : Int)) ≤ (p + (Go.Proofs.Ytpdddafaelbgkaa.Fixup.at_ f))) ∧
 ((p + (Go.Proofs.Ytpdddafaelbgkaa.Fixup.at_ f)) ≤ (9223372036854775807 : Int))) ∧
 ((((Bool.not (@Option.isSome Int (Go.Proofs.Ytpdddafaelbgkaa.fixVal (Go.Proofs.Ytpdddafaelbgkaa.Fixup.kind f) (p + (Go.Proofs.Ytpdddafaelbgkaa.Fixup.at_ f)) t (Go.Proofs.Ytpdddafaelbgkaa.Fixup.add f)))) = true) →
 ((false = (@Option.isSome Int (Go.Proofs.Ytpdddafaelbgkaa.fxVal b p f t))) ∧
 ((@Eq (List Int) b (Go.Proofs.Ytpdddafaelbgkaa.fxApp b p f t)) ∧
 True))) ∧
 (((Bool.not (@Option.isSome Int (Go.Proofs.Ytpdddafaelbgkaa.fixVal (Go.Proofs.Ytpdddafaelbgkaa.Fixup.kind f) (p + (Go.Proofs.Ytpdddafaelbgkaa.Fixup.at_ f)) t (Go.Proofs.Ytpdddafaelbgkaa.Fixup.add f)))) = false) →
 ((((0 : Int) ≤ (Go.Proofs.Ytpdddafaelbgkaa.Fixup.at_ f)) ∧
 ((Go.Proofs.Ytpdddafaelbgkaa.Fixup.at_ f) ≤ (@Nat.cast Int _ (List.length b)))) ∧
 ((((Int.toNat (Go.Proofs.Ytpdddafaelbgkaa.Fixup.at_ f)) + ((List.length b) - (Int.toNat (Go.Proofs.Ytpdddafaelbgkaa.Fixup.at_ f)))) ≤ (List.length b)) →
 ((true = (@Option.isSome Int (Go.Proofs.Ytpdddafaelbgkaa.fxVal b p f t))) ∧
 ((@Eq (List Int) (((List.take (Int.toNat (Go.Proofs.Ytpdddafaelbgkaa.Fixup.at_ f)) b) ++ (List.take ((List.length b) - (Int.toNat (Go.Proofs.Ytpdddafaelbgkaa.Fixup.at_ f))) (Go.Proofs.Ytpdddafaelbgkaa.putN (@Option.getD Int (Go.Proofs.Ytpdddafaelbgkaa.fixVal (Go.Proofs.Ytpdddafaelbgkaa.Fixup.kind f) (p + (Go.Proofs.Ytpdddafaelbgkaa.Fixup.at_ f)) t (Go.Proofs.Ytpdddafaelbgkaa.Fixup.add f)) (0 : Int)) (Go.Proofs.Ytpdddafaelbgkaa.fixWide (Go.Proofs.Ytpdddafaelbgkaa.Fixup.kind f))))) ++ (List.drop ((Int.toNat (Go.Proofs.Ytpdddafaelbgkaa.Fixup.at_ f)) + (@Min.min Nat _ (List.length (Go.Proofs.Ytpdddafaelbgkaa.putN (@Option.getD Int (Go.Proofs.Ytpdddafaelbgkaa.fixVal (Go.Proofs.Ytpdddafaelbgkaa.Fixup.kind f) (p + (Go.Proofs.Ytpdddafaelbgkaa.Fixup.at_ f)) t (Go.Proofs.Ytpdddafaelbgkaa.Fixup.add f)) (0 : Int)) (Go.Proofs.Ytpdddafaelbgkaa.fixWide (Go.Proofs.Ytpdddafaelbgkaa.Fixup.kind f)))) ((List.length b) - (Int.toNat (Go.Proofs.Ytpdddafaelbgkaa.Fixup.at_ f))))) b)) (Go.Proofs.Ytpdddafaelbgkaa.fxApp b p f t)) ∧
 True))))))))))))))))) := by kernel_rfl
theorem det_impl_ApplyFixup : C_impl_ApplyFixup.det = true → ∀ x, (C_impl_ApplyFixup.out x).Det := fun _ x => by simp only [C_impl_ApplyFixup]; repeat (first | exact Det.ret _ | exact Det.vc' | apply Det.req | apply Det.giv | apply Det.fork | apply Det.bif' | intro _)
set_option maxRecDepth 200000 in
set_option maxHeartbeats 1000000 in
theorem ok_impl_ApplyFixup : ConOK Try.prog 54 C_impl_ApplyFixup := by
  refine con_mk (wr := false) (ty := tyL [(3, .i), (5, .u), (4, .bool), (9, .str), (163, .int .u64), (71, .st .fixup), (24, .st .img), (39, .st .region), (35, .st .mem), (30, .st .patch), (94, .st .hash), (92, .list .i), (90, .list .str), (22, .list .u), (67, .st .fixup), (52, .st .img), (149, .st .region), (55, .st .mem), (101, .st .hash)]) (l := [(114, C_slices_Clone_byte_byte), (36, C_impl_FixupWide), (98, C_impl_within), (32, C_impl_FixupValue), (35, C_impl_PutNumber)]) ⟨⟨ok_slices_Clone_byte_byte, det_slices_Clone_byte_byte⟩, ⟨⟨ok_impl_FixupWide, det_impl_FixupWide⟩, ⟨⟨ok_impl_within, det_impl_within⟩, ⟨⟨ok_impl_FixupValue, det_impl_FixupValue⟩, ⟨⟨ok_impl_PutNumber, det_impl_PutNumber⟩, trivial⟩⟩⟩⟩⟩ Try.checked.mixed (fn := Try.f54) (body := Try.f54.body.getD .skip) Try.func54 rfl (by decide) (by kernel_rfl) rfl an_impl_ApplyFixup fun x ho hx => ?_
  obtain ⟨b, p, f, t, ⟨⟩⟩ := x
  refine Keeps.of (vc_impl_ApplyFixup b p f t) ?_
  revert b p f t ho hx
  show ∀ (b : List (Int)) (p : Int) (f : Fixup) (t : Int), _
  intro b p f t ho hx
  dsimp only [C_impl_ApplyFixup, okPTL, okPT, Ok, Ty.cells, SN.cells, OkL, OkC, okI, ci, cb, cs, cl] at ho
  dsimp only [C_impl_ApplyFixup, vc, v1, decB, SR.pre] at hx
  have hw := fixWide_le f.kind
  have he := fxVal_eq b p f t
  have hn := @fxApp_none b p f t
  have hc := @fxApp_copy b p f t
  have hok : fxOk b p f = decide (0 ≤ p ∧ p ≤ 100000 ∧ fixWide f.kind ≠ 0 ∧ 0 ≤ f.at_ ∧ f.at_ ≤ b.length - fixWide f.kind) := rfl
  cases hv : fixVal f.kind (p + f.at_) t f.add <;> (simp only [decide_eq_true_eq, decide_eq_false_iff_not, Bool.not_eq_true', Bool.not_eq_false', and_true, true_and, Int.toNat_natCast, exists_eq_left', exists_eq_left, exists_and_left, Int.not_lt, Int.not_le, Bool.false_eq_true, false_implies, implies_true, forall_const, List.length_append, List.length_cons, List.length_nil, Int.sub_add_cancel, Int.add_sub_cancel, and_imp, get_set_iff, forall_eq', forall_eq, List.set_set, mkd_get, mkd_len, List.length_set, Option.some.injEq]; (repeat' first | intro _ | apply And.intro); all_goals (try omega); all_goals grind)
def C_spec_ApplyFixup : Con := { ps := [.ro (.list .u), .ro .i, .ro (.st .fixup), .ro .i], out := fun x => let b : List (Int) := x.1; let p : Int := x.2.1; let f : Fixup := x.2.2.1; let t : Int := x.2.2.2.1; .req (b.length ≤ 1048576) (newLB .u (fxApp b p f t) (fxVal b p f t).isSome), det := true }
def G_spec_ApplyFixup : Cfg := mkG (tyL [(3, .i), (5, .u), (4, .bool), (9, .str), (163, .int .u64), (71, .st .fixup), (24, .st .img), (39, .st .region), (35, .st .mem), (30, .st .patch), (94, .st .hash), (92, .list .i), (90, .list .str), (22, .list .u), (67, .st .fixup), (52, .st .img), (149, .st .region), (55, .st .mem), (101, .st .hash)]) [(104, C_spec_FixupWide), (105, C_spec_l1In), (33, C_spec_FixupValue), (113, C_spec_PutNumber)] false
def an_spec_ApplyFixup : PTL C_spec_ApplyFixup.ps → Nat → Option Ann := fun x kk_ => let b : List (Int) := x.1; let p : Int := x.2.1; let f : Fixup := x.2.2.1; let t : Int := x.2.2.2.1; if kk_ = 10 then some (.all (Int) fun k => .giv ((fxVal b p f t).isSome = true ∧ 0 ≤ k ∧ k ≤ fixWide f.kind) (.mk [(10, asl 20), (11, ai (fixWide f.kind)), (14, al .u (putN ((fxVal b p f t).getD 0) (fixWide f.kind))), (15, ai k), (6, aref 66)] [(20, .row (some 5) .u (fxFill b f.at_.toNat (putN ((fxVal b p f t).getD 0) (fixWide f.kind)) k.toNat) true), (66, bx (ast .fixup f))] ((fixWide f.kind - k).toNat))) else none
set_option maxRecDepth 200000 in
theorem vc_spec_ApplyFixup (b : List (Int)) (p : Int) (f : Fixup) (t : Int) : (keeps Try.prog G_spec_ApplyFixup (an_spec_ApplyFixup (b, p, f, t, ())) (Try.f51.body.getD .skip) Try.f51.results.toList C_spec_ApplyFixup (b, p, f, t, ())) = (((((((0 : Nat) + (List.length b)) * (1 : Nat)) ≤ (140737488355328 : Nat)) ∧
 (((0 : Nat) + (List.length b)) ≤ (1000000000000 : Nat))) ∧
 ((((decide ((Go.Proofs.Ytpdddafaelbgkaa.fixWide (Go.Proofs.Ytpdddafaelbgkaa.Fixup.kind f)) = (0 : Int))) = true) →
 ((false = (@Option.isSome Int (Go.Proofs.Ytpdddafaelbgkaa.fxVal b p f t))) ∧
 ((@Eq (List Int) b (Go.Proofs.Ytpdddafaelbgkaa.fxApp b p f t)) ∧
 True))) ∧
 (((decide ((Go.Proofs.Ytpdddafaelbgkaa.fixWide (Go.Proofs.Ytpdddafaelbgkaa.Fixup.kind f)) = (0 : Int))) = false) →
 (((List.length b) ≤ (9223372036854775807 : Nat)) →
 ((((- (9223372036854775808 : Int)) ≤ ((@Nat.cast Int _ (List.length b)) - (Go.Proofs.Ytpdddafaelbgkaa.fixWide (Go.Proofs.Ytpdddafaelbgkaa.Fixup.kind f)))) ∧
 (((@Nat.cast Int _ (List.length b)) - (Go.Proofs.Ytpdddafaelbgkaa.fixWide (Go.Proofs.Ytpdddafaelbgkaa.Fixup.kind f))) ≤ (9223372036854775807 : Int))) ∧
 ((((Bool.not (decide (((0 : Int) ≤ (Go.Proofs.Ytpdddafaelbgkaa.Fixup.at_ f)) ∧
 ((Go.Proofs.Ytpdddafaelbgkaa.Fixup.at_ f) ≤ ((@Nat.cast Int _ (List.length b)) - (Go.Proofs.Ytpdddafaelbgkaa.fixWide (Go.Proofs.Ytpdddafaelbgkaa.Fixup.kind f))))))) = true) →
 ((false = (@Option.isSome Int (Go.Proofs.Ytpdddafaelbgkaa.fxVal b p f t))) ∧
 ((@Eq (List Int) b (Go.Proofs.Ytpdddafaelbgkaa.fxApp b p f t)) ∧
 True))) ∧
 (((Bool.not (decide (((0 : Int) ≤ (Go.Proofs.Ytpdddafaelbgkaa.Fixup.at_ f)) ∧
 ((Go.Proofs.Ytpdddafaelbgkaa.Fixup.at_ f) ≤ ((@Nat.cast Int _ (List.length b)) - (Go.Proofs.Ytpdddafaelbgkaa.fixWide (Go.Proofs.Ytpdddafaelbgkaa.Fixup.kind f))))))) = false) →
 ((((Bool.not (decide (((0 : Int) ≤ p) ∧
 (p ≤ (100000 : Int))))) = true) →
 ((false = (@Option.isSome Int (Go.Proofs.Ytpdddafaelbgkaa.fxVal b p f t))) ∧
 ((@Eq (List Int) b (Go.Proofs.Ytpdddafaelbgkaa.fxApp b p f t)) ∧
 True))) ∧
 (((Bool.not (decide (((0 : Int) ≤ p) ∧
 (p ≤ (100000 : Int))))) = false) →
 ((((- (9223372036854775808 : Int)) ≤ (p + (Go.Proofs.Ytpdddafaelbgkaa.Fixup.at_ f))) ∧
 ((p + (Go.Proofs.Ytpdddafaelbgkaa.Fixup.at_ f)) ≤ (9223372036854775807 : Int))) ∧
 ((((Bool.not (@Option.isSome Int (Go.Proofs.Ytpdddafaelbgkaa.fixVal (Go.Proofs.Ytpdddafaelbgkaa.Fixup.kind f) (p + (Go.Proofs.Ytpdddafaelbgkaa.Fixup.at_ f)) t (Go.Proofs.Ytpdddafaelbgkaa.Fixup.add f)))) = true) →
 ((false = (@Option.isSome Int (Go.Proofs.Ytpdddafaelbgkaa.fxVal b p f t))) ∧
 ((@Eq (List Int) b (Go.Proofs.Ytpdddafaelbgkaa.fxApp b p f t)) ∧
 True))) ∧
 (((Bool.not (@Option.isSome Int (Go.Proofs.Ytpdddafaelbgkaa.fixVal (Go.Proofs.Ytpdddafaelbgkaa.Fixup.kind f) (p + (Go.Proofs.Ytpdddafaelbgkaa.Fixup.at_ f)) t (Go.Proofs.Ytpdddafaelbgkaa.Fixup.add f)))) = false) →
 ((∃ (x_1 : Int), (((Go.Proofs.Ytpdddafaelbgkaa.fixWide (Go.Proofs.Ytpdddafaelbgkaa.Fixup.kind f)) = (Go.Proofs.Ytpdddafaelbgkaa.fixWide (Go.Proofs.Ytpdddafaelbgkaa.Fixup.kind f))) ∧
 ((@Eq (List Int) (Go.Proofs.Ytpdddafaelbgkaa.putN (@Option.getD Int (Go.Proofs.Ytpdddafaelbgkaa.fixVal (Go.Proofs.Ytpdddafaelbgkaa.Fixup.kind f) (p + (Go.Proofs.Ytpdddafaelbgkaa.Fixup.at_ f)) t (Go.Proofs.Ytpdddafaelbgkaa.Fixup.add f)) (0 : Int)) (Go.Proofs.Ytpdddafaelbgkaa.fixWide (Go.Proofs.Ytpdddafaelbgkaa.Fixup.kind f))) (Go.Proofs.Ytpdddafaelbgkaa.putN (@Option.getD Int (Go.Proofs.Ytpdddafaelbgkaa.fxVal b p f t) (0 : Int)) (Go.Proofs.Ytpdddafaelbgkaa.fixWide (Go.Proofs.Ytpdddafaelbgkaa.Fixup.kind f)))) ∧
 (((0 : Int) = x_1) ∧
 ((@Eq (List Int) b (Go.Proofs.Ytpdddafaelbgkaa.fxFill b (Int.toNat (Go.Proofs.Ytpdddafaelbgkaa.Fixup.at_ f)) (Go.Proofs.Ytpdddafaelbgkaa.putN (@Option.getD Int (Go.Proofs.Ytpdddafaelbgkaa.fxVal b p f t) (0 : Int)) (Go.Proofs.Ytpdddafaelbgkaa.fixWide (Go.Proofs.Ytpdddafaelbgkaa.Fixup.kind f))) (Int.toNat x_1))) ∧
 (((Go.Proofs.Ytpdddafaelbgkaa.Fixup.at_ f) = (Go.Proofs.Ytpdddafaelbgkaa.Fixup.at_ f)) ∧
 (((Go.Proofs.Ytpdddafaelbgkaa.Fixup.kind f) = (Go.Proofs.Ytpdddafaelbgkaa.Fixup.kind f)) ∧
 (((Go.Proofs.Ytpdddafaelbgkaa.Fixup.to f) = (Go.Proofs.Ytpdddafaelbgkaa.Fixup.to f)) ∧
 (((Go.Proofs.Ytpdddafaelbgkaa.Fixup.add f) = (Go.Proofs.Ytpdddafaelbgkaa.Fixup.add f)) ∧
 ((((@Option.isSome Int (Go.Proofs.Ytpdddafaelbgkaa.fxVal b p f t)) = true) ∧
 (((0 : Int) ≤ x_1) ∧
 (x_1 ≤ (Go.Proofs.Ytpdddafaelbgkaa.fixWide (Go.Proofs.Ytpdddafaelbgkaa.Fixup.kind f))))) ∧
 True)))))))))) ∧
 (∀ (x_2 : Int), ((((@Option.isSome Int (Go.Proofs.Ytpdddafaelbgkaa.fxVal b p f t)) = true) ∧
 (((0 : Int) ≤ x_2) ∧
 (x_2 ≤ (Go.Proofs.Ytpdddafaelbgkaa.fixWide (Go.Proofs.Ytpdddafaelbgkaa.Fixup.kind f))))) →
 ((((decide (x_2 < (Go.Proofs.Ytpdddafaelbgkaa.fixWide (Go.Proofs.Ytpdddafaelbgkaa.Fixup.kind f)))) = true) →
 ((((- (9223372036854775808 : Int)) ≤ ((Go.Proofs.Ytpdddafaelbgkaa.Fixup.at_ f) + x_2)) ∧
 (((Go.Proofs.Ytpdddafaelbgkaa.Fixup.at_ f) + x_2) ≤ (9223372036854775807 : Int))) ∧
 ((((0 : Int) ≤ x_2) ∧
 (x_2 < (@Nat.cast Int _ (List.length (Go.Proofs.Ytpdddafaelbgkaa.putN (@Option.getD Int (Go.Proofs.Ytpdddafaelbgkaa.fxVal b p f t) (0 : Int)) (Go.Proofs.Ytpdddafaelbgkaa.fixWide (Go.Proofs.Ytpdddafaelbgkaa.Fixup.kind f))))))) ∧
 (∀ (x_3 : Int), ((@Eq (Option Int) ((Go.Proofs.Ytpdddafaelbgkaa.putN (@Option.getD Int (Go.Proofs.Ytpdddafaelbgkaa.fxVal b p f t) (0 : Int)) (Go.Proofs.Ytpdddafaelbgkaa.fixWide (Go.Proofs.Ytpdddafaelbgkaa.Fixup.kind f))))[(Int.toNat x_2)]? (some x_3)) →
 ((Go.Proofs.Ytpdddafaelbgkaa.Ok (Go.Proofs.Ytpdddafaelbgkaa.Ty.int Go.IntKind.u8) x_3) →
 ((((0 : Int) ≤ ((Go.Proofs.Ytpdddafaelbgkaa.Fixup.at_ f) + x_2)) ∧
 (((Go.Proofs.Ytpdddafaelbgkaa.Fixup.at_ f) + x_2) < (@Nat.cast Int _ (List.length (Go.Proofs.Ytpdddafaelbgkaa.fxFill b (Int.toNat (Go.Proofs.Ytpdddafaelbgkaa.Fixup.at_ f)) (Go.Proofs.Ytpdddafaelbgkaa.putN (@Option.getD Int (Go.Proofs.Ytpdddafaelbgkaa.fxVal b p f t) (0 : Int)) (Go.Proofs.Ytpdddafaelbgkaa.fixWide (Go.Proofs.Ytpdddafaelbgkaa.Fixup.kind f))) (Int.toNat x_2)))))) ∧
 (∀ (x_4 : Int), ((@Eq (Option Int) ((Go.Proofs.Ytpdddafaelbgkaa.fxFill b (Int.toNat (Go.Proofs.Ytpdddafaelbgkaa.Fixup.at_ f)) (Go.Proofs.Ytpdddafaelbgkaa.putN (@Option.getD Int (Go.Proofs.Ytpdddafaelbgkaa.fxVal b p f t) (0 : Int)) (Go.Proofs.Ytpdddafaelbgkaa.fixWide (Go.Proofs.Ytpdddafaelbgkaa.Fixup.kind f))) (Int.toNat x_2)))[(Int.toNat ((Go.Proofs.Ytpdddafaelbgkaa.Fixup.at_ f) + x_2))]? (some x_4)) →
 ((((- (9223372036854775808 : Int)) ≤ (x_2 + (1 : Int))) ∧
 ((x_2 + (1 : Int)) ≤ (9223372036854775807 : Int))) ∧
 (∃ (x_5 : Int), (((Go.Proofs.Ytpdddafaelbgkaa.fixWide (Go.Proofs.Ytpdddafaelbgkaa.Fixup.kind f)) = (Go.Proofs.Ytpdddafaelbgkaa.fixWide (Go.Proofs.Ytpdddafaelbgkaa.Fixup.kind f))) ∧
 ((@Eq (List Int) (Go.Proofs.Ytpdddafaelbgkaa.putN (@Option.getD Int (Go.Proofs.Ytpdddafaelbgkaa.fxVal b p f t) (0 : Int)) (Go.Proofs.Ytpdddafaelbgkaa.fixWide (Go.Proofs.Ytpdddafaelbgkaa.Fixup.kind f))) (Go.Proofs.Ytpdddafaelbgkaa.putN (@Option.getD Int (Go.Proofs.Ytpdddafaelbgkaa.fxVal b p f t) (0 : Int)) (Go.Proofs.Ytpdddafaelbgkaa.fixWide (Go.Proofs.Ytpdddafaelbgkaa.Fixup.kind f)))) ∧
 (((x_2 + (1 : Int)) = x_5) ∧
 ((@Eq (List Int) (List.set (Go.Proofs.Ytpdddafaelbgkaa.fxFill b (Int.toNat (Go.Proofs.Ytpdddafaelbgkaa.Fixup.at_ f)) (Go.Proofs.Ytpdddafaelbgkaa.putN (@Option.getD Int (Go.Proofs.Ytpdddafaelbgkaa.fxVal b p f t) (0 : Int)) (Go.Proofs.Ytpdddafaelbgkaa.fixWide (Go.Proofs.Ytpdddafaelbgkaa.Fixup.kind f))) (Int.toNat x_2)) (Int.toNat ((Go.Proofs.Ytpdddafaelbgkaa.Fixup.at_ f) + x_2)) x_3) (Go.Proofs.Ytpdddafaelbgkaa.fxFill b (Int.toNat (Go.Proofs.Ytpdddafaelbgkaa.Fixup.at_ f)) (Go.Proofs.Ytpdddafaelbgkaa.putN (@Option.getD Int (Go.Proofs.Ytpdddafaelbgkaa.fxVal b p f t) (0 : Int)) (Go.Proofs.Ytpdddafaelbgkaa.fixWide (Go.Proofs.Ytpdddafaelbgkaa.Fixup.kind f))) (Int.toNat x_5))) ∧
 (((Go.Proofs.Ytpdddafaelbgkaa.Fixup.at_ f) = (Go.Proofs.Ytpdddafaelbgkaa.Fixup.at_ f)) ∧
 (((Go.Proofs.Ytpdddafaelbgkaa.Fixup.kind f) = (Go.Proofs.Ytpdddafaelbgkaa.Fixup.kind f)) ∧
 (((Go.Proofs.Ytpdddafaelbgkaa.Fixup.to f) = (Go.Proofs.Ytpdddafaelbgkaa.Fixup.to f)) ∧
 (((Go.Proofs.Ytpdddafaelbgkaa.Fixup.add f) = (Go.Proofs.Ytpdddafaelbgkaa.Fixup.add f)) ∧
 ((((@Option.isSome Int (Go.Proofs.Ytpdddafaelbgkaa.fxVal b p f t)) = true) ∧
 (((0 : Int) ≤ x_5) ∧
 (x_5 ≤ (Go.Proofs.Ytpdddafaelbgkaa.fixWide (Go.Proofs.Ytpdddafaelbgkaa.Fixup.kind f))))) ∧
 ((Int.toNat ((Go.Proofs.Ytpdddafaelbgkaa.fixWide (Go.Proofs.Ytpdddafaelbgkaa.Fixup.kind f)) - x_5)) < (Int.toNat ((Go.Proofs.Ytpdddafaelbgkaa.fixWide (Go.Proofs.Ytpdddafaelbgkaa.Fixup.kind f)) - x_2))))))))))))))))))))))) ∧
 (((decide (x_2 < (Go.Proofs.Ytpdddafaelbgkaa.fixWide (Go.Proofs.Ytpdddafaelbgkaa.Fixup.kind f)))) = false) →
 ((true = (@Option.isSome Int (Go.Proofs.Ytpdddafaelbgkaa.fxVal b p f t))) ∧
 ((@Eq (List Int) (Go.Proofs.Ytpdddafaelbgkaa.fxFill b (Int.toNat (Go.Proofs.Ytpdddafaelbgkaa.Fixup.at_ f)) (Go.Proofs.Ytpdddafaelbgkaa.putN (@Option.getD Int (Go.Proofs.Ytpdddafaelbgkaa.fxVal b p f t) (0 : Int)) (Go.Proofs.Ytpdddafaelbgkaa.fixWide (Go.Proofs.Ytpdddafaelbgkaa.Fixup.kind f))) (Int.toNat x_2)) (Go.Proofs.Ytpdddafaelbgkaa.fxApp b p f t)) ∧
 True)))))))))))))))))))) := by kernel_rfl
theorem det_spec_ApplyFixup : C_spec_ApplyFixup.det = true → ∀ x, (C_spec_ApplyFixup.out x).Det := fun _ x => by simp only [C_spec_ApplyFixup]; repeat (first | exact Det.ret _ | exact Det.vc' | apply Det.req | apply Det.giv | apply Det.fork | apply Det.bif' | intro _)
set_option maxRecDepth 200000 in
set_option maxHeartbeats 1000000 in
theorem ok_spec_ApplyFixup : ConOK Try.prog 51 C_spec_ApplyFixup := by
  refine con_mk (wr := false) (ty := tyL [(3, .i), (5, .u), (4, .bool), (9, .str), (163, .int .u64), (71, .st .fixup), (24, .st .img), (39, .st .region), (35, .st .mem), (30, .st .patch), (94, .st .hash), (92, .list .i), (90, .list .str), (22, .list .u), (67, .st .fixup), (52, .st .img), (149, .st .region), (55, .st .mem), (101, .st .hash)]) (l := [(104, C_spec_FixupWide), (105, C_spec_l1In), (33, C_spec_FixupValue), (113, C_spec_PutNumber)]) ⟨⟨ok_spec_FixupWide, det_spec_FixupWide⟩, ⟨⟨ok_spec_l1In, det_spec_l1In⟩, ⟨⟨ok_spec_FixupValue, det_spec_FixupValue⟩, ⟨⟨ok_spec_PutNumber, det_spec_PutNumber⟩, trivial⟩⟩⟩⟩ Try.checked.mixed (fn := Try.f51) (body := Try.f51.body.getD .skip) Try.func51 rfl (by decide) (by kernel_rfl) rfl an_spec_ApplyFixup fun x ho hx => ?_
  obtain ⟨b, p, f, t, ⟨⟩⟩ := x
  refine Keeps.of (vc_spec_ApplyFixup b p f t) ?_
  revert b p f t ho hx
  show ∀ (b : List (Int)) (p : Int) (f : Fixup) (t : Int), _
  intro b p f t ho hx
  dsimp only [C_spec_ApplyFixup, okPTL, okPT, Ok, Ty.cells, SN.cells, OkL, OkC, okI, ci, cb, cs, cl] at ho
  dsimp only [C_spec_ApplyFixup, vc, v1, decB, SR.pre] at hx
  have hw := fixWide_le f.kind
  have he := fxVal_eq b p f t
  have hn := @fxApp_none b p f t
  have hc := @fxApp_some b p f t
  have hok : fxOk b p f = decide (0 ≤ p ∧ p ≤ 100000 ∧ fixWide f.kind ≠ 0 ∧ 0 ≤ f.at_ ∧ f.at_ ≤ b.length - fixWide f.kind) := rfl
  cases hv : fixVal f.kind (p + f.at_) t f.add <;> (simp only [decide_eq_true_eq, decide_eq_false_iff_not, Bool.not_eq_true', Bool.not_eq_false', and_true, true_and, Int.toNat_natCast, exists_eq_left', exists_eq_left, exists_and_left, Int.not_lt, Int.not_le, Bool.false_eq_true, false_implies, implies_true, forall_const, List.length_append, List.length_cons, List.length_nil, Int.sub_add_cancel, Int.add_sub_cancel, and_imp, get_set_iff, forall_eq', forall_eq, List.set_set, mkd_get, mkd_len, List.length_set, Option.some.injEq]; (repeat' first | intro _ | apply And.intro); all_goals (try omega); all_goals first | exact fxFill_set' (by omega) (by omega) (by omega) (by assumption) | grind [fxFill_zero, fxFill_len])
end Go.Proofs.Ytpdddafaelbgkaa
