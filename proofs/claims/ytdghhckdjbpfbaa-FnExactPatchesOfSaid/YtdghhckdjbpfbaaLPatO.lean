/- The laws on patches made and put in. -/
import Derived.Test.YtdghhckdjbpfbaaDrawI
import Derived.Test.YtdghhckdjbpfbaaPat
import Derived.Test.YtdghhckdjbpfbaaSame
import Derived.Test.YtdghhckdjbpfbaaFamC
import Derived.Test.YtdghhckdjbpfbaaHead
set_option linter.unusedVariables false
set_option linter.unusedSimpArgs false
namespace Go.Proofs.Ytdghhckdjbpfbaa
open Go Go.RowKit Go.ChangeShapes Go.WideShapes Go.Deep


def dr2 (a b : Img) : SR := .ret { val := .tup [(true, (SN.cells .img a).map .c), (true, (SN.cells .img b).map .c)] }
theorem byB_set {l : List Int} {k : Nat} {x : Int} (h : byB l) (h0 : 0 ≤ x) (h1 : x ≤ 255) : byB (l.set k x) := by
  refine List.all_eq_true.2 fun y hy => ?_
  rcases List.mem_or_eq_of_mem_set hy with hy | rfl
  · exact List.all_eq_true.1 h y hy
  · simp [h0, h1]
theorem imgBd_set {a : Int} {l : List Int} {k : Nat} {x : Int} (h : imgBd ⟨a, l⟩) : imgBd ⟨a, l.set k (x % 256)⟩ := by
  rw [imgBd_iff] at *
  refine ⟨h.1, h.2.1, by simpa using h.2.2.1, byB_set h.2.2.2 (by omega) (by omega)⟩
theorem imgBd_len {m : Img} (h : imgBd m) : m.bytes.length ≤ 2001 := (imgBd_iff.1 h).2.2.1
theorem pats_self {a : Img} : pats a a = [] := by
  unfold pats
  split
  · have : ∀ i : Nat, pAt a.base a.bytes a.bytes i = ([], false) := fun i => by
      induction i with
      | zero => rfl
      | succ i ih => simp [pAt, ih, pStep]
    rw [this]
  · rfl
theorem patOk_self {a : Img} (h : imgOk a) : patOk a a = true := patOk_iff.2 ⟨h, h, rfl, rfl⟩
theorem pats_len (a b : Img) (h : patOk a b = true) : (pats a b).length ≤ 1000 := by
  have := (pats_ok h).1
  simp only [patB, Bool.and_eq_true, decide_eq_true_eq] at this
  omega
/-- How many rows of places differ. -/
theorem rows_step {base : Int} {a b : List Int} {k : Int} {x y u v : Int} (hk : 0 ≤ k) (ha : a[k.toNat]? = some x) (hb : b[k.toNat]? = some y) (hne : x ≠ y) (hp : k = 0 ∨ (a[(k - 1).toNat]? = some u ∧ b[(k - 1).toNat]? = some u)) : ((pAt base a b (k + 1).toNat).1.length : Int) = (pAt base a b k.toNat).1.length + 1 := by
  have hd : (pAt base a b k.toNat).2 = false := by
    rcases hp with rfl | ⟨h1, h2⟩
    · rfl
    · by_cases h0 : k = 0
      · subst h0; rfl
      · have := pAt_diff (base := base) (i := k - 1) (by omega) h1 h2
        rw [show k - 1 + 1 = k by omega] at this
        rw [this]; simp
  rw [pAt_new hk ha hb hne hd]
  simp
theorem rows_more {base : Int} {a b : List Int} {k : Int} {x y u v : Int} (hk : 0 < k) (ha : a[k.toNat]? = some x) (hb : b[k.toNat]? = some y) (hne : x ≠ y) (h1 : a[(k - 1).toNat]? = some u) (h2 : b[(k - 1).toNat]? = some v) (huv : u ≠ v) : ((pAt base a b (k + 1).toNat).1.length : Int) = (pAt base a b k.toNat).1.length := by
  have hd : (pAt base a b k.toNat).2 = true := by
    have := pAt_diff (base := base) (i := k - 1) (by omega) h1 h2
    rw [show k - 1 + 1 = k by omega] at this
    rw [this]; simp [huv]
  rw [pAt_more (by omega) ha hb hne hd, lastApp_len]
theorem rows_same {base : Int} {a b : List Int} {k : Int} {x : Int} (hk : 0 ≤ k) (ha : a[k.toNat]? = some x) (hb : b[k.toNat]? = some x) : ((pAt base a b (k + 1).toNat).1.length : Int) = (pAt base a b k.toNat).1.length := by
  rw [pAt_same hk ha hb]
theorem apP_len {m : Img} {l : List Patch} (h : patB m l = true) : (apP m l).base = m.base ∧ (apP m l).bytes.length = m.bytes.length := by
  rw [apP, if_pos h]
  simp only [patB, Bool.and_eq_true, decide_eq_true_eq] at h
  exact ⟨rfl, apB_len (Int.le_refl _) rfl h.2⟩
theorem apP_ok {m : Img} {l : List Patch} (h : patB m l = true) : patOk (apP m l) m = true := by
  have h1 := apP_len h
  simp only [patB, Bool.and_eq_true, decide_eq_true_eq] at h
  refine patOk_iff.2 ⟨?_, h.1.1, h1.1, h1.2⟩
  unfold imgOk
  rw [h1.1, h1.2]
  exact h.1.1
theorem pAt_1000 {a b : Img} {k : Int} (h : patOk a b = true) (hk : k ≤ a.bytes.length) : (pAt a.base a.bytes b.bytes k.toNat).1.length ≤ 2000 := by
  have h1 := (pAt_len (base := a.base) (a := a.bytes) (b := b.bytes) k.toNat).1
  have h2 := imgOk_bd (patOk_iff.1 h).1
  omega
theorem pats_at {a b : Img} {k : Int} (h : patOk a b = true) (h1 : (a.bytes.length : Int) ≤ k) (h2 : k ≤ a.bytes.length) : ((pats a b).length : Int) = (pAt a.base a.bytes b.bytes k.toNat).1.length := by rw [pats_yes h h1 h2]
theorem patOk_len {a b : Img} (h : patOk a b = true) : (a.bytes.length : Int) = b.bytes.length := by rw [(patOk_iff.1 h).2.2.2]
theorem rows_same' {base : Int} {a b : List Int} {k : Int} {x y : Int} (he : ¬ x ≠ y) (hk : 0 ≤ k) (ha : a[k.toNat]? = some x) (hb : b[k.toNat]? = some y) : ((pAt base a b k.toNat).1.length : Int) = (pAt base a b (k + 1).toNat).1.length := by
  have : x = y := Decidable.not_not.1 he
  subst this
  exact (rows_same hk ha hb).symm
theorem rows_new0 {base : Int} {a b : List Int} {k : Int} {x y : Int} (hne : x ≠ y) (hk : 0 ≤ k) (h0 : k = 0) (ha : a[k.toNat]? = some x) (hb : b[k.toNat]? = some y) : ((pAt base a b k.toNat).1.length : Int) + 1 = (pAt base a b (k + 1).toNat).1.length :=
  (rows_step (u := 0) (v := 0) hk ha hb hne (.inl h0)).symm
theorem rows_new1 {base : Int} {a b : List Int} {k : Int} {x y u v : Int} (h1 : a[(k - 1).toNat]? = some u) (h2 : b[(k - 1).toNat]? = some v) (huv : u = v) (ha : a[k.toNat]? = some x) (hb : b[k.toNat]? = some y) (hne : x ≠ y) (hk : 0 ≤ k) : ((pAt base a b k.toNat).1.length : Int) + 1 = (pAt base a b (k + 1).toNat).1.length := by
  subst huv
  exact (rows_step (u := u) (v := 0) hk ha hb hne (.inr ⟨h1, h2⟩)).symm
theorem rows_more' {base : Int} {a b : List Int} {k : Int} {x y u v : Int} (h1 : a[(k - 1).toNat]? = some u) (h2 : b[(k - 1).toNat]? = some v) (huv : ¬ u = v) (ha : a[k.toNat]? = some x) (hb : b[k.toNat]? = some y) (hne : x ≠ y) (hk : 0 ≤ k) (h0 : ¬ k = 0) : ((pAt base a b k.toNat).1.length : Int) = (pAt base a b (k + 1).toNat).1.length :=
  (rows_more (by omega) ha hb hne h1 h2 huv).symm
theorem rows_new2 {base : Int} {a b : List Int} {k n : Int} {x y u v : Int} (hn : n = ((pAt base a b k.toNat).1.length : Int)) (h1 : a[(k - 1).toNat]? = some u) (h2 : b[(k - 1).toNat]? = some v) (huv : u = v) (ha : a[k.toNat]? = some x) (hb : b[k.toNat]? = some y) (hne : x ≠ y) (hk : 0 ≤ k) : n + 1 = (pAt base a b (k + 1).toNat).1.length := by
  rw [hn]
  exact rows_new1 h1 h2 huv ha hb hne hk
theorem pats_sum (a b : Img) : sumI cPa (pats a b) ≤ 3000000 := by
  cases h : patOk a b with
  | false => rw [pats_no h]; simp [sumI]
  | true =>
    have h1 := imgOk_bd (patOk_iff.1 h).1
    have h2 := pats_len a b h
    have key : ∀ l : List Patch, (∀ p ∈ l, p.bytes.length ≤ a.bytes.length) → sumI cPa l ≤ 2001 * l.length := fun l => by
      induction l with
      | nil => intro _; simp [sumI]
      | cons p l ih =>
        intro hp
        have g1 := hp p List.mem_cons_self
        have g2 := ih fun q hq => hp q (List.mem_cons_of_mem _ hq)
        simp only [sumI, List.length_cons, cPa, cOne_len] at g2 ⊢
        omega
    have h3 := key (pats a b) fun p hp => by
      rw [pats, if_pos h] at hp
      exact pAt_bytes _ _ hp
    omega
theorem mkPa_sum : ∀ (l : List Patch) (k : Int), sumI cPa (mkL mkPa cPa l k) = sumI cPa l := by
  intro l
  induction l with
  | nil => intro k; rfl
  | cons p l ih =>
    intro k
    simp only [mkL, sumI, ih]
    simp only [cPa, mkPa, cOne_len, mkL_len]
theorem patBd_sz {l : List Patch} (h : patBd l) : (l.length : Int) + sumI szPa l ≤ 1048576 := by
  have key : ∀ l : List Patch, patA l → sumI szPa l ≤ 4 * l.length := fun l => by
    induction l with
    | nil => intro _; simp [sumI]
    | cons p l ih =>
      intro h
      have h1 := patA_mem h (List.mem_cons_self)
      have h2 := ih (List.all_eq_true.2 fun q hq => List.all_eq_true.1 h q (List.mem_cons_of_mem _ hq))
      simp only [sumI, List.length_cons, szPa]
      have := h1.1
      omega
  have h1 := h.1
  have h2 := key l h.2
  omega
def C_spec_DrawPatchesOf : Con := { ps := [.ro (.list .u)], out := fun x => let c : List (Int) := x.1; .all Img fun a => .all Img fun b => .giv (imgBd a ∧ imgBd b) (dr2 a b), det := false }
def G_spec_DrawPatchesOf : Cfg := mkG (tyL [(3, .i), (5, .u), (4, .bool), (9, .str), (126, .int .u64), (45, .st .fixup), (24, .st .img), (91, .st .patch), (65, .st .hash), (63, .list .i), (61, .list .str), (22, .list .u), (41, .st .fixup), (33, .st .img), (72, .st .hash)]) [(63, C_spec_l20Open), (64, C_spec_l20Image), (65, C_spec_l20Rd_pick), (66, C_spec_l20Rd_odd)] false
def an_spec_DrawPatchesOf : PTL C_spec_DrawPatchesOf.ps → Nat → Option Ann := fun x kk_ => let c : List (Int) := x.1; if kk_ = 5 then some (.all (Img) fun a => .all (List Int) fun l => .all (Int) fun k => .all (Int) fun p => .giv (imgBd a ∧ imgBd ⟨a.base, l⟩ ∧ 0 ≤ p ∧ p ≤ 200 - 3 * k ∧ 0 ≤ k ∧ k ≤ 5) (.mk [(2, aref 52), (3, aref 53), (4, aref 54), (5, aref 55), (6, aref 56), (7, ai k)] [(52, bx (ast .img ⟨0, []⟩)), (53, bx (ast .img ⟨0, []⟩)), (54, bx (ast .reader ⟨c.take 2000, p⟩)), (55, bx (ast .img a)), (56, .box false [.c (ci a.base), .sl 20 []]), (20, .row none .u l true)] (k.toNat))) else none
set_option maxRecDepth 200000 in
theorem vc_spec_DrawPatchesOf (c : List (Int)) : (keeps Try.prog G_spec_DrawPatchesOf (an_spec_DrawPatchesOf (c, ())) (Try.f15.body.getD .skip) Try.f15.results.toList C_spec_DrawPatchesOf (c, ())) = (((((0 : Int) ≤ (0 : Int)) ∧
 (((0 : Int) ≤ (500000000 : Int)) ∧
 ((12 : Int) ≤ (1000000 : Int)))) ∧
 (∀ (x_1 : Img), (∀ (x_2 : Int), ((((0 : Int) ≤ x_2) ∧
 ((x_2 ≤ ((0 : Int) + (50 : Int))) ∧
 (imgBd x_1))) →
 ((((((0 : Nat) + (List.length (Img.bytes x_1))) * (1 : Nat)) ≤ (140737488355328 : Nat)) ∧
 (((0 : Nat) + (List.length (Img.bytes x_1))) ≤ (1000000000000 : Nat))) ∧
 ((((0 : Int) ≤ x_2) ∧
 (x_2 ≤ (1000000000000 : Int))) ∧
 ((∃ (x_3 : Img), (∃ (x_4 : (List Int)), (∃ (x_5 : Int), (∃ (x_6 : Int), (((pickF (List.take (2000 : Nat) c) x_2 (5 : Int)) = x_5) ∧
 (((0 : Int) = (0 : Int)) ∧
 ((@Eq (List Int) ([] : List Int) ([] : List Int)) ∧
 (((0 : Int) = (0 : Int)) ∧
 ((@Eq (List Int) ([] : List Int) ([] : List Int)) ∧
 ((@Eq (List Int) (List.take (2000 : Nat) c) (List.take (2000 : Nat) c)) ∧
 (((x_2 + (1 : Int)) = x_6) ∧
 (((Img.base x_1) = (Img.base x_3)) ∧
 ((@Eq (List Int) (Img.bytes x_1) (Img.bytes x_3)) ∧
 (((Img.base x_1) = (Img.base x_3)) ∧
 ((@Eq (List Int) (Img.bytes x_1) x_4) ∧
 (((imgBd x_3) ∧
 ((imgBd (Img.mk (Img.base x_3) x_4)) ∧
 (((0 : Int) ≤ x_6) ∧
 ((x_6 ≤ ((200 : Int) - ((3 : Int) * x_5))) ∧
 (((0 : Int) ≤ x_5) ∧
 (x_5 ≤ (5 : Int))))))) ∧
 True)))))))))))))))) ∧
 (∀ (x_7 : Img), (∀ (x_8 : (List Int)), (∀ (x_9 : Int), (∀ (x_10 : Int), (((imgBd x_7) ∧
 ((imgBd (Img.mk (Img.base x_7) x_8)) ∧
 (((0 : Int) ≤ x_10) ∧
 ((x_10 ≤ ((200 : Int) - ((3 : Int) * x_9))) ∧
 (((0 : Int) ≤ x_9) ∧
 (x_9 ≤ (5 : Int))))))) →
 ((((decide ((0 : Int) < x_9)) = true) →
 (((List.length x_8) ≤ (9223372036854775807 : Nat)) →
 ((((decide ((0 : Int) < (@Nat.cast Int _ (List.length x_8)))) = true) →
 (((List.length x_8) ≤ (9223372036854775807 : Nat)) →
 ((((0 : Int) ≤ x_10) ∧
 (x_10 ≤ (1000000000000 : Int))) ∧
 ((((0 : Int) ≤ (x_10 + (1 : Int))) ∧
 ((x_10 + (1 : Int)) ≤ (1000000000000 : Int))) ∧
 ((((0 : Int) ≤ (pickF (List.take (2000 : Nat) c) x_10 (@Nat.cast Int _ (List.length x_8)))) ∧
 ((pickF (List.take (2000 : Nat) c) x_10 (@Nat.cast Int _ (List.length x_8))) < (@Nat.cast Int _ (List.length x_8)))) ∧
 (∀ (x_11 : Int), ((@Eq (Option Int) (x_8)[(Int.toNat (pickF (List.take (2000 : Nat) c) x_10 (@Nat.cast Int _ (List.length x_8))))]? (some x_11)) →
 ((((- (9223372036854775808 : Int)) ≤ (x_9 - (1 : Int))) ∧
 ((x_9 - (1 : Int)) ≤ (9223372036854775807 : Int))) ∧
 (∃ (x_12 : Img), (∃ (x_13 : (List Int)), (∃ (x_14 : Int), (∃ (x_15 : Int), (((x_9 - (1 : Int)) = x_14) ∧
 (((0 : Int) = (0 : Int)) ∧
 ((@Eq (List Int) ([] : List Int) ([] : List Int)) ∧
 (((0 : Int) = (0 : Int)) ∧
 ((@Eq (List Int) ([] : List Int) ([] : List Int)) ∧
 ((@Eq (List Int) (List.take (2000 : Nat) c) (List.take (2000 : Nat) c)) ∧
 ((((x_10 + (1 : Int)) + (1 : Int)) = x_15) ∧
 (((Img.base x_7) = (Img.base x_12)) ∧
 ((@Eq (List Int) (Img.bytes x_7) (Img.bytes x_12)) ∧
 (((Img.base x_7) = (Img.base x_12)) ∧
 ((@Eq (List Int) (List.set x_8 (Int.toNat (pickF (List.take (2000 : Nat) c) x_10 (@Nat.cast Int _ (List.length x_8)))) ((pickF (List.take (2000 : Nat) c) (x_10 + (1 : Int)) (256 : Int)) % (256 : (Ty.den Ty.u)))) x_13) ∧
 (((imgBd x_12) ∧
 ((imgBd (Img.mk (Img.base x_12) x_13)) ∧
 (((0 : Int) ≤ x_15) ∧
 ((x_15 ≤ ((200 : Int) - ((3 : Int) * x_14))) ∧
 (((0 : Int) ≤ x_14) ∧
 (x_14 ≤ (5 : Int))))))) ∧
 ((Int.toNat x_14) < (Int.toNat x_9)))))))))))))))))))))))))) ∧
 (((decide ((0 : Int) < (@Nat.cast Int _ (List.length x_8)))) = false) →
 ((((0 : Int) ≤ x_10) ∧
 ((x_10 ≤ (1000000000000 : Int)) ∧
 ((9 : Int) ≤ (1000000 : Int)))) ∧
 (∀ (x_16 : Bool), (∀ (x_17 : Int), (((x_10 ≤ x_17) ∧
 ((x_17 ≤ (x_10 + (1 : Int))) ∧
 (((9 : Int) ≤ (0 : Int)) →
 (x_16 = false)))) →
 (((x_16 = true) →
 ((((0 : Int) ≤ x_17) ∧
 ((x_17 ≤ (500000000 : Int)) ∧
 ((3 : Int) ≤ (1000000 : Int)))) ∧
 (∀ (x_18 : Img), (∀ (x_19 : Int), (((x_17 ≤ x_19) ∧
 ((x_19 ≤ (x_17 + (50 : Int))) ∧
 (imgBd x_18))) →
 (∃ (x_20 : Img), (∃ (x_21 : Img), ((((Img.base x_7) = (Img.base x_20)) ∧
 ((@Eq (List Int) (Img.bytes x_7) (Img.bytes x_20)) ∧
 (((Img.base x_18) = (Img.base x_21)) ∧
 ((@Eq (List Int) (Img.bytes x_18) (Img.bytes x_21)) ∧
 True)))) ∧
 ((imgBd x_20) ∧
 (imgBd x_21)))))))))) ∧
 ((x_16 = false) →
 (∃ (x_22 : Img), (∃ (x_23 : Img), ((((Img.base x_7) = (Img.base x_22)) ∧
 ((@Eq (List Int) (Img.bytes x_7) (Img.bytes x_22)) ∧
 (((Img.base x_7) = (Img.base x_23)) ∧
 ((@Eq (List Int) x_8 (Img.bytes x_23)) ∧
 True)))) ∧
 ((imgBd x_22) ∧
 (imgBd x_23))))))))))))))) ∧
 (((decide ((0 : Int) < x_9)) = false) →
 ((((0 : Int) ≤ x_10) ∧
 ((x_10 ≤ (1000000000000 : Int)) ∧
 ((9 : Int) ≤ (1000000 : Int)))) ∧
 (∀ (x_24 : Bool), (∀ (x_25 : Int), (((x_10 ≤ x_25) ∧
 ((x_25 ≤ (x_10 + (1 : Int))) ∧
 (((9 : Int) ≤ (0 : Int)) →
 (x_24 = false)))) →
 (((x_24 = true) →
 ((((0 : Int) ≤ x_25) ∧
 ((x_25 ≤ (500000000 : Int)) ∧
 ((3 : Int) ≤ (1000000 : Int)))) ∧
 (∀ (x_26 : Img), (∀ (x_27 : Int), (((x_25 ≤ x_27) ∧
 ((x_27 ≤ (x_25 + (50 : Int))) ∧
 (imgBd x_26))) →
 (∃ (x_28 : Img), (∃ (x_29 : Img), ((((Img.base x_7) = (Img.base x_28)) ∧
 ((@Eq (List Int) (Img.bytes x_7) (Img.bytes x_28)) ∧
 (((Img.base x_26) = (Img.base x_29)) ∧
 ((@Eq (List Int) (Img.bytes x_26) (Img.bytes x_29)) ∧
 True)))) ∧
 ((imgBd x_28) ∧
 (imgBd x_29)))))))))) ∧
 ((x_24 = false) →
 (∃ (x_30 : Img), (∃ (x_31 : Img), ((((Img.base x_7) = (Img.base x_30)) ∧
 ((@Eq (List Int) (Img.bytes x_7) (Img.bytes x_30)) ∧
 (((Img.base x_7) = (Img.base x_31)) ∧
 ((@Eq (List Int) x_8 (Img.bytes x_31)) ∧
 True)))) ∧
 ((imgBd x_30) ∧
 (imgBd x_31)))))))))))))))))))))))))) := by kernel_rfl
theorem det_spec_DrawPatchesOf : C_spec_DrawPatchesOf.det = true → ∀ x, (C_spec_DrawPatchesOf.out x).Det := fun h => absurd h Bool.false_ne_true
set_option maxRecDepth 200000 in
set_option maxHeartbeats 1000000 in
theorem ok_spec_DrawPatchesOf : ConOK Try.prog 15 C_spec_DrawPatchesOf := by
  refine con_mk (wr := false) (ty := tyL [(3, .i), (5, .u), (4, .bool), (9, .str), (126, .int .u64), (45, .st .fixup), (24, .st .img), (91, .st .patch), (65, .st .hash), (63, .list .i), (61, .list .str), (22, .list .u), (41, .st .fixup), (33, .st .img), (72, .st .hash)]) (l := [(63, C_spec_l20Open), (64, C_spec_l20Image), (65, C_spec_l20Rd_pick), (66, C_spec_l20Rd_odd)]) ⟨⟨ok_spec_l20Open, det_spec_l20Open⟩, ⟨⟨ok_spec_l20Image, det_spec_l20Image⟩, ⟨⟨ok_spec_l20Rd_pick, det_spec_l20Rd_pick⟩, ⟨⟨ok_spec_l20Rd_odd, det_spec_l20Rd_odd⟩, trivial⟩⟩⟩⟩ Try.checked.mixed (fn := Try.f15) (body := Try.f15.body.getD .skip) Try.func15 rfl (by decide) (by kernel_rfl) rfl an_spec_DrawPatchesOf fun x ho hx => ?_
  obtain ⟨c, ⟨⟩⟩ := x
  refine Keeps.of (vc_spec_DrawPatchesOf c) ?_
  revert c ho hx
  show ∀ (c : List (Int)), _
  intro c ho hx
  dsimp only [C_spec_DrawPatchesOf, okPTL, okPT, Ok, Ty.cells, SN.cells, OkL, OkC, okI, ci, cb, cs, cl] at ho
  dsimp only [C_spec_DrawPatchesOf, vc, v1, decB, SR.pre] at hx
  simp only [decide_eq_true_eq, decide_eq_false_iff_not, Bool.not_eq_true', Bool.not_eq_false', and_true, true_and, and_assoc, Int.toNat_natCast, exists_eq_left', exists_eq_left, exists_and_left, Int.not_lt, Int.not_le, Bool.false_eq_true, false_implies, implies_true, forall_const, List.length_append, List.length_cons, List.length_nil, Int.sub_add_cancel, Int.add_sub_cancel, and_imp, ex_img, ex_mem, ex_fix, ex_pat, forall_eq', forall_eq]; (repeat' first | apply And.intro | (intro x hq _; replace hq := List.mem_of_getElem? hq; simp only [List.mem_cons, List.not_mem_nil, or_false] at hq) | intro _); all_goals (try omega)
  all_goals (try (have h1 := imgBd_len (by assumption)))
  all_goals (try (have h2 := pickF_bd (List.take 2000 c) (by assumption) 5))
  all_goals first | omega | exact imgBd_set (by assumption) | exact (pickF_bd _ _ _).1 | exact (pickF_bd _ _ _).2.1 (by omega) | grind [pickF_bd] | skip
def C_laws_FnPatchesFew : Con := { ps := [.ro (.list .u)], out := fun x => let c : List (Int) := x.1; vc .bool true, det := true }
def G_laws_FnPatchesFew : Cfg := mkG (tyL [(3, .i), (5, .u), (4, .bool), (9, .str), (126, .int .u64), (45, .st .fixup), (24, .st .img), (91, .st .patch), (65, .st .hash), (63, .list .i), (61, .list .str), (22, .list .u), (41, .st .fixup), (33, .st .img), (72, .st .hash)]) [(15, C_spec_DrawPatchesOf), (16, C_impl_PatchesOf), (17, C_spec_PatchesOf), (18, C_laws_samePatches), (19, C_laws_alive)] false
def an_laws_FnPatchesFew : PTL C_laws_FnPatchesFew.ps → Nat → Option Ann := fun x kk_ => let c : List (Int) := x.1; if kk_ = 13 then some (.all (Img) fun a => .all (Img) fun b => .all (Int) fun k => .all (Int) fun n => .all (List Patch) fun ps => .giv (patOk a b = true ∧ 0 ≤ k ∧ k ≤ a.bytes.length ∧ ps = pats a b ∧ n = (pAt a.base a.bytes b.bytes k.toNat).1.length) (.mk [(12, ai k), (11, ai n), (5, al (.st .patch) ps), (3, aref 33), (4, aref 34), (9, al (.st .patch) []), (10, ab true)] [(33, bx (ast .img a)), (34, bx (ast .img b))] ((a.bytes.length - k.toNat)))) else none
set_option maxRecDepth 200000 in
theorem vc_laws_FnPatchesFew (c : List (Int)) : (keeps Try.prog G_laws_FnPatchesFew (an_laws_FnPatchesFew (c, ())) (Try.f3.body.getD .skip) Try.f3.results.toList C_laws_FnPatchesFew (c, ())) = ((((List.length c) ≤ (9223372036854775807 : Nat)) →
 ((((decide ((1048576 : Int) < (@Nat.cast Int _ (List.length c)))) = true) →
 ((true = true) ∧
 True)) ∧
 (((decide ((1048576 : Int) < (@Nat.cast Int _ (List.length c)))) = false) →
 (∀ (x_1 : Img), (∀ (x_2 : Img), (((imgBd x_1) ∧
 (imgBd x_2)) →
 ((((List.length (Img.bytes x_1)) ≤ (1048576 : Nat)) ∧
 ((List.length (Img.bytes x_2)) ≤ (1048576 : Nat))) ∧
 ((((Bool.not (decide (@Eq (List Patch) (pats x_1 x_2) (pats x_1 x_2)))) = true) →
 ((false = true) ∧
 True)) ∧
 (((Bool.not (decide (@Eq (List Patch) (pats x_1 x_2) (pats x_1 x_2)))) = false) →
 ((((decide ((patOk x_1 x_2) ≠ (patOk x_1 x_2))) = true) →
 ((false = true) ∧
 True)) ∧
 (((decide ((patOk x_1 x_2) ≠ (patOk x_1 x_2))) = false) →
 ((((Bool.not (patOk x_1 x_2)) = true) →
 ((true = true) ∧
 True)) ∧
 (((Bool.not (patOk x_1 x_2)) = false) →
 ((∃ (x_3 : Img), (∃ (x_4 : Img), (∃ (x_5 : Int), (∃ (x_6 : Int), (∃ (x_7 : (List Patch)), (((0 : Int) = x_5) ∧
 (((0 : Int) = x_6) ∧
 ((@Eq (List Patch) (pats x_1 x_2) x_7) ∧
 ((@Eq (List Patch) (pats x_1 x_1) ([] : List Patch)) ∧
 (((patOk x_1 x_1) = true) ∧
 (((Img.base x_1) = (Img.base x_3)) ∧
 ((@Eq (List Int) (Img.bytes x_1) (Img.bytes x_3)) ∧
 (((Img.base x_2) = (Img.base x_4)) ∧
 ((@Eq (List Int) (Img.bytes x_2) (Img.bytes x_4)) ∧
 ((((patOk x_3 x_4) = true) ∧
 (((0 : Int) ≤ x_5) ∧
 ((x_5 ≤ (@Nat.cast Int _ (List.length (Img.bytes x_3)))) ∧
 ((@Eq (List Patch) x_7 (pats x_3 x_4)) ∧
 (x_6 = (@Nat.cast Int _ (List.length (Prod.fst (pAt (Img.base x_3) (Img.bytes x_3) (Img.bytes x_4) (Int.toNat x_5)))))))))) ∧
 True))))))))))))))) ∧
 (∀ (x_8 : Img), (∀ (x_9 : Img), (∀ (x_10 : Int), (∀ (x_11 : Int), (∀ (x_12 : (List Patch)), ((((patOk x_8 x_9) = true) ∧
 (((0 : Int) ≤ x_10) ∧
 ((x_10 ≤ (@Nat.cast Int _ (List.length (Img.bytes x_8)))) ∧
 ((@Eq (List Patch) x_12 (pats x_8 x_9)) ∧
 (x_11 = (@Nat.cast Int _ (List.length (Prod.fst (pAt (Img.base x_8) (Img.bytes x_8) (Img.bytes x_9) (Int.toNat x_10)))))))))) →
 (((List.length (Img.bytes x_8)) ≤ (9223372036854775807 : Nat)) →
 ((((decide (x_10 < (@Nat.cast Int _ (List.length (Img.bytes x_8))))) = true) →
 (((List.length (Img.bytes x_9)) ≤ (9223372036854775807 : Nat)) →
 ((((decide (x_10 < (@Nat.cast Int _ (List.length (Img.bytes x_9))))) = true) →
 ((((0 : Int) ≤ x_10) ∧
 (x_10 < (@Nat.cast Int _ (List.length (Img.bytes x_8))))) ∧
 (∀ (x_13 : Int), ((@Eq (Option Int) ((Img.bytes x_8))[(Int.toNat x_10)]? (some x_13)) →
 ((Ok (Ty.int IntKind.u8) x_13) →
 ((((0 : Int) ≤ x_10) ∧
 (x_10 < (@Nat.cast Int _ (List.length (Img.bytes x_9))))) ∧
 (∀ (x_14 : Int), ((@Eq (Option Int) ((Img.bytes x_9))[(Int.toNat x_10)]? (some x_14)) →
 ((Ok (Ty.int IntKind.u8) x_14) →
 ((((decide (x_13 ≠ x_14)) = true) →
 ((((decide (x_10 = (0 : Int))) = true) →
 ((((- (9223372036854775808 : Int)) ≤ (x_11 + (1 : Int))) ∧
 ((x_11 + (1 : Int)) ≤ (9223372036854775807 : Int))) ∧
 ((((- (9223372036854775808 : Int)) ≤ (x_10 + (1 : Int))) ∧
 ((x_10 + (1 : Int)) ≤ (9223372036854775807 : Int))) ∧
 (∃ (x_15 : Img), (∃ (x_16 : Img), (∃ (x_17 : Int), (∃ (x_18 : Int), (∃ (x_19 : (List Patch)), (((x_10 + (1 : Int)) = x_17) ∧
 (((x_11 + (1 : Int)) = x_18) ∧
 ((@Eq (List Patch) x_12 x_19) ∧
 ((@Eq (List Patch) ([] : List Patch) ([] : List Patch)) ∧
 ((true = true) ∧
 (((Img.base x_8) = (Img.base x_15)) ∧
 ((@Eq (List Int) (Img.bytes x_8) (Img.bytes x_15)) ∧
 (((Img.base x_9) = (Img.base x_16)) ∧
 ((@Eq (List Int) (Img.bytes x_9) (Img.bytes x_16)) ∧
 ((((patOk x_15 x_16) = true) ∧
 (((0 : Int) ≤ x_17) ∧
 ((x_17 ≤ (@Nat.cast Int _ (List.length (Img.bytes x_15)))) ∧
 ((@Eq (List Patch) x_19 (pats x_15 x_16)) ∧
 (x_18 = (@Nat.cast Int _ (List.length (Prod.fst (pAt (Img.base x_15) (Img.bytes x_15) (Img.bytes x_16) (Int.toNat x_17)))))))))) ∧
 (((List.length (Img.bytes x_15)) - (Int.toNat x_17)) < ((List.length (Img.bytes x_8)) - (Int.toNat x_10))))))))))))))))))))) ∧
 (((decide (x_10 = (0 : Int))) = false) →
 ((((- (9223372036854775808 : Int)) ≤ (x_10 - (1 : Int))) ∧
 ((x_10 - (1 : Int)) ≤ (9223372036854775807 : Int))) ∧
 ((((0 : Int) ≤ (x_10 - (1 : Int))) ∧
 ((x_10 - (1 : Int)) < (@Nat.cast Int _ (List.length (Img.bytes x_8))))) ∧
 (∀ (x_20 : Int), ((@Eq (Option Int) ((Img.bytes x_8))[(Int.toNat (x_10 - (1 : Int)))]? (some x_20)) →
 ((Ok (Ty.int IntKind.u8) x_20) →
 ((((- (9223372036854775808 : Int)) ≤ (x_10 - (1 : Int))) ∧
 ((x_10 - (1 : Int)) ≤ (9223372036854775807 : Int))) ∧
 ((((0 : Int) ≤ (x_10 - (1 : Int))) ∧
 ((x_10 - (1 : Int)) < (@Nat.cast Int _ (List.length (Img.bytes x_9))))) ∧
 (∀ (x_21 : Int), ((@Eq (Option Int) ((Img.bytes x_9))[(Int.toNat (x_10 - (1 : Int)))]? (some x_21)) →
 ((Ok (Ty.int IntKind.u8) x_21) →
 ((((decide (x_20 = x_21)) = true) →
 ((((- (9223372036854775808 : Int)) ≤ (x_11 + (1 : Int))) ∧
 ((x_11 + (1 : Int)) ≤ (9223372036854775807 : Int))) ∧
 ((((- (9223372036854775808 : Int)) ≤ (x_10 + (1 : Int))) ∧
 ((x_10 + (1 : Int)) ≤ (9223372036854775807 : Int))) ∧
 (∃ (x_22 : Img), (∃ (x_23 : Img), (∃ (x_24 : Int), (∃ (x_25 : Int), (∃ (x_26 : (List Patch)), (((x_10 + (1 : Int)) = x_24) ∧
 (((x_11 + (1 : Int)) = x_25) ∧
 ((@Eq (List Patch) x_12 x_26) ∧
 ((@Eq (List Patch) ([] : List Patch) ([] : List Patch)) ∧
 ((true = true) ∧
 (((Img.base x_8) = (Img.base x_22)) ∧
 ((@Eq (List Int) (Img.bytes x_8) (Img.bytes x_22)) ∧
 (((Img.base x_9) = (Img.base x_23)) ∧
 ((@Eq (List Int) (Img.bytes x_9) (Img.bytes x_23)) ∧
 ((((patOk x_22 x_23) = true) ∧
 (((0 : Int) ≤ x_24) ∧
 ((x_24 ≤ (@Nat.cast Int _ (List.length (Img.bytes x_22)))) ∧
 ((@Eq (List Patch) x_26 (pats x_22 x_23)) ∧
 (x_25 = (@Nat.cast Int _ (List.length (Prod.fst (pAt (Img.base x_22) (Img.bytes x_22) (Img.bytes x_23) (Int.toNat x_24)))))))))) ∧
 (((List.length (Img.bytes x_22)) - (Int.toNat x_24)) < ((List.length (Img.bytes x_8)) - (Int.toNat x_10))))))))))))))))))))) ∧
 (((decide (x_20 = x_21)) = false) →
 ((((- (9223372036854775808 : Int)) ≤ (x_10 + (1 : Int))) ∧
 ((x_10 + (1 : Int)) ≤ (9223372036854775807 : Int))) ∧
 (∃ (x_27 : Img), (∃ (x_28 : Img), (∃ (x_29 : Int), (∃ (x_30 : Int), (∃ (x_31 : (List Patch)), (((x_10 + (1 : Int)) = x_29) ∧
 ((x_11 = x_30) ∧
 ((@Eq (List Patch) x_12 x_31) ∧
 ((@Eq (List Patch) ([] : List Patch) ([] : List Patch)) ∧
 ((true = true) ∧
 (((Img.base x_8) = (Img.base x_27)) ∧
 ((@Eq (List Int) (Img.bytes x_8) (Img.bytes x_27)) ∧
 (((Img.base x_9) = (Img.base x_28)) ∧
 ((@Eq (List Int) (Img.bytes x_9) (Img.bytes x_28)) ∧
 ((((patOk x_27 x_28) = true) ∧
 (((0 : Int) ≤ x_29) ∧
 ((x_29 ≤ (@Nat.cast Int _ (List.length (Img.bytes x_27)))) ∧
 ((@Eq (List Patch) x_31 (pats x_27 x_28)) ∧
 (x_30 = (@Nat.cast Int _ (List.length (Prod.fst (pAt (Img.base x_27) (Img.bytes x_27) (Img.bytes x_28) (Int.toNat x_29)))))))))) ∧
 (((List.length (Img.bytes x_27)) - (Int.toNat x_29)) < ((List.length (Img.bytes x_8)) - (Int.toNat x_10)))))))))))))))))))))))))))))))))) ∧
 (((decide (x_13 ≠ x_14)) = false) →
 ((((- (9223372036854775808 : Int)) ≤ (x_10 + (1 : Int))) ∧
 ((x_10 + (1 : Int)) ≤ (9223372036854775807 : Int))) ∧
 (∃ (x_32 : Img), (∃ (x_33 : Img), (∃ (x_34 : Int), (∃ (x_35 : Int), (∃ (x_36 : (List Patch)), (((x_10 + (1 : Int)) = x_34) ∧
 ((x_11 = x_35) ∧
 ((@Eq (List Patch) x_12 x_36) ∧
 ((@Eq (List Patch) ([] : List Patch) ([] : List Patch)) ∧
 ((true = true) ∧
 (((Img.base x_8) = (Img.base x_32)) ∧
 ((@Eq (List Int) (Img.bytes x_8) (Img.bytes x_32)) ∧
 (((Img.base x_9) = (Img.base x_33)) ∧
 ((@Eq (List Int) (Img.bytes x_9) (Img.bytes x_33)) ∧
 ((((patOk x_32 x_33) = true) ∧
 (((0 : Int) ≤ x_34) ∧
 ((x_34 ≤ (@Nat.cast Int _ (List.length (Img.bytes x_32)))) ∧
 ((@Eq (List Patch) x_36 (pats x_32 x_33)) ∧
 (x_35 = (@Nat.cast Int _ (List.length (Prod.fst (pAt (Img.base x_32) (Img.bytes x_32) (Img.bytes x_33) (Int.toNat x_34)))))))))) ∧
 (((List.length (Img.bytes x_32)) - (Int.toNat x_34)) < ((List.length (Img.bytes x_8)) - (Int.toNat x_10)))))))))))))))))))))))))))))) ∧
 (((decide (x_10 < (@Nat.cast Int _ (List.length (Img.bytes x_9))))) = false) →
 (((true = true) →
 (((0 : Nat) ≤ (9223372036854775807 : Nat)) →
 ((((decide ((@Nat.cast Int _ (0 : Nat)) = (0 : Int))) = true) →
 (((List.length x_12) ≤ (9223372036854775807 : Nat)) →
 (((decide ((@Nat.cast Int _ (List.length x_12)) = x_11)) = true) ∧
 True))) ∧
 (((decide ((@Nat.cast Int _ (0 : Nat)) = (0 : Int))) = false) →
 ((false = true) ∧
 True))))) ∧
 ((true = false) →
 ((false = true) ∧
 True))))))) ∧
 (((decide (x_10 < (@Nat.cast Int _ (List.length (Img.bytes x_8))))) = false) →
 (((true = true) →
 (((0 : Nat) ≤ (9223372036854775807 : Nat)) →
 ((((decide ((@Nat.cast Int _ (0 : Nat)) = (0 : Int))) = true) →
 (((List.length x_12) ≤ (9223372036854775807 : Nat)) →
 (((decide ((@Nat.cast Int _ (List.length x_12)) = x_11)) = true) ∧
 True))) ∧
 (((decide ((@Nat.cast Int _ (0 : Nat)) = (0 : Int))) = false) →
 ((false = true) ∧
 True))))) ∧
 ((true = false) →
 ((false = true) ∧
 True))))))))))))))))))))))))))) := by kernel_rfl
theorem det_laws_FnPatchesFew : C_laws_FnPatchesFew.det = true → ∀ x, (C_laws_FnPatchesFew.out x).Det := fun _ x => by simp only [C_laws_FnPatchesFew]; repeat (first | exact Det.ret _ | exact Det.vc' | apply Det.req | apply Det.giv | apply Det.fork | apply Det.bif' | intro _)
set_option maxRecDepth 200000 in
set_option maxHeartbeats 1000000 in
theorem ok_laws_FnPatchesFew : ConOK Try.prog 3 C_laws_FnPatchesFew := by
  refine con_mk (wr := false) (ty := tyL [(3, .i), (5, .u), (4, .bool), (9, .str), (126, .int .u64), (45, .st .fixup), (24, .st .img), (91, .st .patch), (65, .st .hash), (63, .list .i), (61, .list .str), (22, .list .u), (41, .st .fixup), (33, .st .img), (72, .st .hash)]) (l := [(15, C_spec_DrawPatchesOf), (16, C_impl_PatchesOf), (17, C_spec_PatchesOf), (18, C_laws_samePatches), (19, C_laws_alive)]) ⟨⟨ok_spec_DrawPatchesOf, det_spec_DrawPatchesOf⟩, ⟨⟨ok_impl_PatchesOf, det_impl_PatchesOf⟩, ⟨⟨ok_spec_PatchesOf, det_spec_PatchesOf⟩, ⟨⟨ok_laws_samePatches, det_laws_samePatches⟩, ⟨⟨ok_laws_alive, det_laws_alive⟩, trivial⟩⟩⟩⟩⟩ Try.checked.mixed (fn := Try.f3) (body := Try.f3.body.getD .skip) Try.func3 rfl (by decide) (by kernel_rfl) rfl an_laws_FnPatchesFew fun x ho hx => ?_
  obtain ⟨c, ⟨⟩⟩ := x
  refine Keeps.of (vc_laws_FnPatchesFew c) ?_
  revert c ho hx
  show ∀ (c : List (Int)), _
  intro c ho hx
  dsimp only [C_laws_FnPatchesFew, okPTL, okPT, Ok, Ty.cells, SN.cells, OkL, OkC, okI, ci, cb, cs, cl] at ho
  dsimp only [C_laws_FnPatchesFew, vc, v1, decB, SR.pre] at hx
  have hs := @pats_self
  have hso := @patOk_self
  have hpi := @patOk_iff
  simp only [decide_eq_true_eq, decide_eq_false_iff_not, Bool.not_eq_true', Bool.not_eq_false', and_true, true_and, and_assoc, Int.toNat_natCast, exists_eq_left', exists_eq_left, exists_and_left, Int.not_lt, Int.not_le, Bool.false_eq_true, false_implies, implies_true, forall_const, List.length_append, List.length_cons, List.length_nil, Int.sub_add_cancel, Int.add_sub_cancel, and_imp, ex_img, ex_mem, ex_fix, ex_pat, forall_eq', forall_eq]; (repeat' first | apply And.intro | (intro x hq _; replace hq := List.mem_of_getElem? hq; simp only [List.mem_cons, List.not_mem_nil, or_false] at hq) | intro _); all_goals (try omega)
  all_goals (try (have h1 := imgBd_len (by assumption)))
  all_goals (try (have h4 := patOk_len (by assumption)))
  all_goals (try (have h5 := pAt_1000 (by assumption) (Int.le_of_lt (by assumption))))
  all_goals first
    | omega
    | contradiction
    | (exact absurd rfl (by assumption))
    | (exact absurd trivial (by assumption))
    | rfl
    | exact pats_self
    | exact patOk_self (patOk_iff.1 (by assumption)).1
    | (refine Nat.le_trans (imgBd_len (by assumption)) (by omega))
    | (subst_vars; exact pats_at (by assumption) (by omega) (by omega))
    | (subst_vars; exact rows_same' (by assumption) (by assumption) (by assumption) (by assumption))
    | (exact rows_new2 (by assumption) (by assumption) (by assumption) (by assumption) (by assumption) (by assumption) (by assumption) (by omega))
    | (subst_vars; exact rows_more' (by assumption) (by assumption) (by assumption) (by assumption) (by assumption) (by assumption) (by omega) (by omega))
    | (subst_vars; exact rows_new0 (by assumption) (by omega) (by omega) (by assumption) (by assumption))
    | skip
def C_laws_FnPatchesOf : Con := { ps := [.ro (.list .u)], out := fun x => let c : List (Int) := x.1; vc .bool true, det := true }
def G_laws_FnPatchesOf : Cfg := mkG (tyL [(3, .i), (5, .u), (4, .bool), (9, .str), (126, .int .u64), (45, .st .fixup), (24, .st .img), (91, .st .patch), (65, .st .hash), (63, .list .i), (61, .list .str), (22, .list .u), (41, .st .fixup), (33, .st .img), (72, .st .hash)]) [(15, C_spec_DrawPatchesOf), (16, C_impl_PatchesOf), (17, C_spec_PatchesOf), (18, C_laws_samePatches), (19, C_laws_alive), (34, C_impl_ApplyPatches), (35, C_impl_PatchesValid), (36, C_laws_sameImage)] false
def an_laws_FnPatchesOf : PTL C_laws_FnPatchesOf.ps → Nat → Option Ann := fun _ _ => none
set_option maxRecDepth 200000 in
theorem vc_laws_FnPatchesOf (c : List (Int)) : (keeps Try.prog G_laws_FnPatchesOf (an_laws_FnPatchesOf (c, ())) (Try.f6.body.getD .skip) Try.f6.results.toList C_laws_FnPatchesOf (c, ())) = ((((List.length c) ≤ (9223372036854775807 : Nat)) →
 ((((decide ((1048576 : Int) < (@Nat.cast Int _ (List.length c)))) = true) →
 ((true = true) ∧
 True)) ∧
 (((decide ((1048576 : Int) < (@Nat.cast Int _ (List.length c)))) = false) →
 (∀ (x_1 : Img), (∀ (x_2 : Img), (((imgBd x_1) ∧
 (imgBd x_2)) →
 ((((List.length (Img.bytes x_1)) ≤ (1048576 : Nat)) ∧
 ((List.length (Img.bytes x_2)) ≤ (1048576 : Nat))) ∧
 ((((Bool.not (decide (@Eq (List Patch) (pats x_1 x_2) (pats x_1 x_2)))) = true) →
 ((false = true) ∧
 True)) ∧
 (((Bool.not (decide (@Eq (List Patch) (pats x_1 x_2) (pats x_1 x_2)))) = false) →
 ((((decide ((patOk x_1 x_2) ≠ (patOk x_1 x_2))) = true) →
 ((false = true) ∧
 True)) ∧
 (((decide ((patOk x_1 x_2) ≠ (patOk x_1 x_2))) = false) →
 ((((Bool.not (patOk x_1 x_2)) = true) →
 (((List.length (pats x_1 x_2)) ≤ (9223372036854775807 : Nat)) →
 ((((decide ((@Nat.cast Int _ (List.length (pats x_1 x_2))) = (0 : Int))) = true) →
 ((true = true) ∧
 True)) ∧
 (((decide ((@Nat.cast Int _ (List.length (pats x_1 x_2))) = (0 : Int))) = false) →
 ((false = true) ∧
 True))))) ∧
 (((Bool.not (patOk x_1 x_2)) = false) →
 ((((patB x_1 (pats x_1 x_2)) = true) →
 ((((patB x_1 (pats x_1 x_2)) = true) →
 (((decide (@Eq Img (apP x_1 (pats x_1 x_2)) x_2)) = true) ∧
 True)) ∧
 (((patB x_1 (pats x_1 x_2)) = false) →
 ((false = true) ∧
 True)))) ∧
 (((patB x_1 (pats x_1 x_2)) = false) →
 ((false = true) ∧
 True))))))))))))))))) := by kernel_rfl
theorem det_laws_FnPatchesOf : C_laws_FnPatchesOf.det = true → ∀ x, (C_laws_FnPatchesOf.out x).Det := fun _ x => by simp only [C_laws_FnPatchesOf]; repeat (first | exact Det.ret _ | exact Det.vc' | apply Det.req | apply Det.giv | apply Det.fork | apply Det.bif' | intro _)
set_option maxRecDepth 200000 in
set_option maxHeartbeats 1000000 in
theorem ok_laws_FnPatchesOf : ConOK Try.prog 6 C_laws_FnPatchesOf := by
  refine con_mk (wr := false) (ty := tyL [(3, .i), (5, .u), (4, .bool), (9, .str), (126, .int .u64), (45, .st .fixup), (24, .st .img), (91, .st .patch), (65, .st .hash), (63, .list .i), (61, .list .str), (22, .list .u), (41, .st .fixup), (33, .st .img), (72, .st .hash)]) (l := [(15, C_spec_DrawPatchesOf), (16, C_impl_PatchesOf), (17, C_spec_PatchesOf), (18, C_laws_samePatches), (19, C_laws_alive), (34, C_impl_ApplyPatches), (35, C_impl_PatchesValid), (36, C_laws_sameImage)]) ⟨⟨ok_spec_DrawPatchesOf, det_spec_DrawPatchesOf⟩, ⟨⟨ok_impl_PatchesOf, det_impl_PatchesOf⟩, ⟨⟨ok_spec_PatchesOf, det_spec_PatchesOf⟩, ⟨⟨ok_laws_samePatches, det_laws_samePatches⟩, ⟨⟨ok_laws_alive, det_laws_alive⟩, ⟨⟨ok_impl_ApplyPatches, det_impl_ApplyPatches⟩, ⟨⟨ok_impl_PatchesValid, det_impl_PatchesValid⟩, ⟨⟨ok_laws_sameImage, det_laws_sameImage⟩, trivial⟩⟩⟩⟩⟩⟩⟩⟩ Try.checked.mixed (fn := Try.f6) (body := Try.f6.body.getD .skip) Try.func6 rfl (by decide) (by kernel_rfl) rfl an_laws_FnPatchesOf fun x ho hx => ?_
  obtain ⟨c, ⟨⟩⟩ := x
  refine Keeps.of (vc_laws_FnPatchesOf c) ?_
  revert c ho hx
  show ∀ (c : List (Int)), _
  intro c ho hx
  dsimp only [C_laws_FnPatchesOf, okPTL, okPT, Ok, Ty.cells, SN.cells, OkL, OkC, okI, ci, cb, cs, cl] at ho
  dsimp only [C_laws_FnPatchesOf, vc, v1, decB, SR.pre] at hx
  have h1 := @pats_ok
  have h2 := @pats_no
  simp only [decide_eq_true_eq, decide_eq_false_iff_not, Bool.not_eq_true', Bool.not_eq_false', and_true, true_and, and_assoc, Int.toNat_natCast, exists_eq_left', exists_eq_left, exists_and_left, Int.not_lt, Int.not_le, Bool.false_eq_true, false_implies, implies_true, forall_const, List.length_append, List.length_cons, List.length_nil, Int.sub_add_cancel, Int.add_sub_cancel, and_imp, ex_img, ex_mem, ex_fix, ex_pat, forall_eq', forall_eq]; (repeat' first | apply And.intro | (intro x hq _; replace hq := List.mem_of_getElem? hq; simp only [List.mem_cons, List.not_mem_nil, or_false] at hq) | intro _); all_goals (try omega)
  all_goals first | omega | exact Nat.le_trans (imgBd_len (by assumption)) (by omega) | contradiction | grind | skip
def C_spec_DrawApplyPatches : Con := { ps := [.ro (.list .u)], out := fun x => let c : List (Int) := x.1; .all Img fun m => .all (List Patch) fun l => .giv (imgBd m ∧ patBd l) (.ret { val := .tup [(true, (SN.cells .img m).map .c), (false, [.c (cl (.st .patch) l)])] }), det := false }
def G_spec_DrawApplyPatches : Cfg := mkG (tyL [(3, .i), (5, .u), (4, .bool), (9, .str), (126, .int .u64), (45, .st .fixup), (24, .st .img), (91, .st .patch), (65, .st .hash), (63, .list .i), (61, .list .str), (22, .list .u), (41, .st .fixup), (33, .st .img), (72, .st .hash)]) [(63, C_spec_l20Open), (64, C_spec_l20Image), (81, C_spec_l20Patches)] false
def an_spec_DrawApplyPatches : PTL C_spec_DrawApplyPatches.ps → Nat → Option Ann := fun x kk_ => let c : List (Int) := x.1; if kk_ = 1003 then some (.all (Img) fun m => .all (Int) fun p => .giv (imgBd m ∧ 0 ≤ p ∧ p ≤ 100) (.mk [(2, aref 40), (4, aref 41), (5, aref 42)] [(40, bx (ast .img ⟨0, []⟩)), (41, bx (ast .reader ⟨c.take 2000, p⟩)), (42, bx (ast .img m))] (0))) else none
set_option maxRecDepth 200000 in
theorem vc_spec_DrawApplyPatches (c : List (Int)) : (keeps Try.prog G_spec_DrawApplyPatches (an_spec_DrawApplyPatches (c, ())) (Try.f37.body.getD .skip) Try.f37.results.toList C_spec_DrawApplyPatches (c, ())) = (((((0 : Int) ≤ (0 : Int)) ∧
 (((0 : Int) ≤ (500000000 : Int)) ∧
 ((9 : Int) ≤ (1000000 : Int)))) ∧
 (∀ (x_1 : Img), (∀ (x_2 : Int), ((((0 : Int) ≤ x_2) ∧
 ((x_2 ≤ ((0 : Int) + (50 : Int))) ∧
 (imgBd x_1))) →
 (∃ (x_3 : Img), (∃ (x_4 : Int), (((0 : Int) = (0 : Int)) ∧
 ((@Eq (List Int) ([] : List Int) ([] : List Int)) ∧
 ((@Eq (List Int) (List.take (2000 : Nat) c) (List.take (2000 : Nat) c)) ∧
 ((x_2 = x_4) ∧
 (((Img.base x_1) = (Img.base x_3)) ∧
 ((@Eq (List Int) (Img.bytes x_1) (Img.bytes x_3)) ∧
 (((imgBd x_3) ∧
 (((0 : Int) ≤ x_4) ∧
 (x_4 ≤ (100 : Int)))) ∧
 (∀ (x_5 : Img), (∀ (x_6 : Int), (((imgBd x_5) ∧
 (((0 : Int) ≤ x_6) ∧
 (x_6 ≤ (100 : Int)))) →
 (((0 : Nat) = (0 : Nat)) →
 ((((0 : Int) ≤ x_6) ∧
 ((x_6 ≤ (100000000 : Int)) ∧
 (((9 : Int) ≤ (1000000 : Int)) ∧
 (imgBd x_5)))) ∧
 (∀ (x_7 : (List Patch)), (∀ (x_8 : Int), (((x_6 ≤ x_8) ∧
 ((x_8 ≤ (x_6 + (100 : Int))) ∧
 (patBd x_7))) →
 (∃ (x_9 : Img), (∃ (x_10 : (List Patch)), ((((Img.base x_5) = (Img.base x_9)) ∧
 ((@Eq (List Int) (Img.bytes x_5) (Img.bytes x_9)) ∧
 ((@Eq (List Patch) x_7 x_10) ∧
 True))) ∧
 ((imgBd x_9) ∧
 (patBd x_10))))))))))))))))))))))))))) := by kernel_rfl
theorem det_spec_DrawApplyPatches : C_spec_DrawApplyPatches.det = true → ∀ x, (C_spec_DrawApplyPatches.out x).Det := fun h => absurd h Bool.false_ne_true
set_option maxRecDepth 200000 in
set_option maxHeartbeats 1000000 in
theorem ok_spec_DrawApplyPatches : ConOK Try.prog 37 C_spec_DrawApplyPatches := by
  refine con_mk (wr := false) (ty := tyL [(3, .i), (5, .u), (4, .bool), (9, .str), (126, .int .u64), (45, .st .fixup), (24, .st .img), (91, .st .patch), (65, .st .hash), (63, .list .i), (61, .list .str), (22, .list .u), (41, .st .fixup), (33, .st .img), (72, .st .hash)]) (l := [(63, C_spec_l20Open), (64, C_spec_l20Image), (81, C_spec_l20Patches)]) ⟨⟨ok_spec_l20Open, det_spec_l20Open⟩, ⟨⟨ok_spec_l20Image, det_spec_l20Image⟩, ⟨⟨ok_spec_l20Patches, det_spec_l20Patches⟩, trivial⟩⟩⟩ Try.checked.mixed (fn := Try.f37) (body := Try.f37.body.getD .skip) Try.func37 rfl (by decide) (by kernel_rfl) rfl an_spec_DrawApplyPatches fun x ho hx => ?_
  obtain ⟨c, ⟨⟩⟩ := x
  refine Keeps.of (vc_spec_DrawApplyPatches c) ?_
  revert c ho hx
  show ∀ (c : List (Int)), _
  intro c ho hx
  dsimp only [C_spec_DrawApplyPatches, okPTL, okPT, Ok, Ty.cells, SN.cells, OkL, OkC, okI, ci, cb, cs, cl] at ho
  dsimp only [C_spec_DrawApplyPatches, vc, v1, decB, SR.pre] at hx
  simp only [decide_eq_true_eq, decide_eq_false_iff_not, Bool.not_eq_true', Bool.not_eq_false', and_true, true_and, and_assoc, Int.toNat_natCast, exists_eq_left', exists_eq_left, exists_and_left, Int.not_lt, Int.not_le, Bool.false_eq_true, false_implies, implies_true, forall_const, List.length_append, List.length_cons, List.length_nil, Int.sub_add_cancel, Int.add_sub_cancel, and_imp, ex_img, ex_mem, ex_fix, ex_pat, forall_eq', forall_eq]; (repeat' first | apply And.intro | (intro x hq _; replace hq := List.mem_of_getElem? hq; simp only [List.mem_cons, List.not_mem_nil, or_false] at hq) | intro _); all_goals (try omega)
  all_goals first | omega | exact Nat.le_trans (imgBd_len (by assumption)) (by omega) | contradiction | grind | skip
def C_laws_FnApplyPatches : Con := { ps := [.ro (.list .u)], out := fun x => let c : List (Int) := x.1; vc .bool true, det := true }
def G_laws_FnApplyPatches : Cfg := mkG (tyL [(3, .i), (5, .u), (4, .bool), (9, .str), (126, .int .u64), (45, .st .fixup), (24, .st .img), (91, .st .patch), (65, .st .hash), (63, .list .i), (61, .list .str), (22, .list .u), (41, .st .fixup), (33, .st .img), (72, .st .hash)]) [(37, C_spec_DrawApplyPatches), (34, C_impl_ApplyPatches), (38, C_spec_ApplyPatches), (36, C_laws_sameImage), (19, C_laws_alive), (16, C_impl_PatchesOf)] false
def an_laws_FnApplyPatches : PTL C_laws_FnApplyPatches.ps → Nat → Option Ann := fun _ _ => none
set_option maxRecDepth 200000 in
theorem vc_laws_FnApplyPatches (c : List (Int)) : (keeps Try.prog G_laws_FnApplyPatches (an_laws_FnApplyPatches (c, ())) (Try.f7.body.getD .skip) Try.f7.results.toList C_laws_FnApplyPatches (c, ())) = ((((List.length c) ≤ (9223372036854775807 : Nat)) →
 ((((decide ((1048576 : Int) < (@Nat.cast Int _ (List.length c)))) = true) →
 ((true = true) ∧
 True)) ∧
 (((decide ((1048576 : Int) < (@Nat.cast Int _ (List.length c)))) = false) →
 (∀ (x_1 : Img), (∀ (x_2 : (List Patch)), (((imgBd x_1) ∧
 (patBd x_2)) →
 ((((List.length (Img.bytes x_1)) ≤ (1048576 : Nat)) ∧
 (((@Nat.cast Int _ (List.length x_2)) + (@sumI Patch szPa x_2)) ≤ (1048576 : Int))) ∧
 ((((Bool.not (decide (@Eq Img (apP x_1 x_2) (apP x_1 x_2)))) = true) →
 ((false = true) ∧
 True)) ∧
 (((Bool.not (decide (@Eq Img (apP x_1 x_2) (apP x_1 x_2)))) = false) →
 ((((decide ((patB x_1 x_2) ≠ (patB x_1 x_2))) = true) →
 ((false = true) ∧
 True)) ∧
 (((decide ((patB x_1 x_2) ≠ (patB x_1 x_2))) = false) →
 ((((Bool.not (patB x_1 x_2)) = true) →
 (((List.length (Img.bytes (apP x_1 x_2))) ≤ (9223372036854775807 : Nat)) →
 ((((decide ((@Nat.cast Int _ (List.length (Img.bytes (apP x_1 x_2)))) = (0 : Int))) = true) →
 ((true = true) ∧
 True)) ∧
 (((decide ((@Nat.cast Int _ (List.length (Img.bytes (apP x_1 x_2)))) = (0 : Int))) = false) →
 ((false = true) ∧
 True))))) ∧
 (((Bool.not (patB x_1 x_2)) = false) →
 ((((patB (apP x_1 x_2) (pats (apP x_1 x_2) x_1)) = true) →
 ((((decide (@Eq Img (apP (apP x_1 x_2) (pats (apP x_1 x_2) x_1)) x_1)) = true) →
 (((decide ((Img.base (apP x_1 x_2)) = (Img.base x_1))) = true) ∧
 True)) ∧
 (((decide (@Eq Img (apP (apP x_1 x_2) (pats (apP x_1 x_2) x_1)) x_1)) = false) →
 ((false = true) ∧
 True)))) ∧
 (((patB (apP x_1 x_2) (pats (apP x_1 x_2) x_1)) = false) →
 ((false = true) ∧
 True))))))))))))))))) := by kernel_rfl
theorem det_laws_FnApplyPatches : C_laws_FnApplyPatches.det = true → ∀ x, (C_laws_FnApplyPatches.out x).Det := fun _ x => by simp only [C_laws_FnApplyPatches]; repeat (first | exact Det.ret _ | exact Det.vc' | apply Det.req | apply Det.giv | apply Det.fork | apply Det.bif' | intro _)
set_option maxRecDepth 200000 in
set_option maxHeartbeats 1000000 in
theorem ok_laws_FnApplyPatches : ConOK Try.prog 7 C_laws_FnApplyPatches := by
  refine con_mk (wr := false) (ty := tyL [(3, .i), (5, .u), (4, .bool), (9, .str), (126, .int .u64), (45, .st .fixup), (24, .st .img), (91, .st .patch), (65, .st .hash), (63, .list .i), (61, .list .str), (22, .list .u), (41, .st .fixup), (33, .st .img), (72, .st .hash)]) (l := [(37, C_spec_DrawApplyPatches), (34, C_impl_ApplyPatches), (38, C_spec_ApplyPatches), (36, C_laws_sameImage), (19, C_laws_alive), (16, C_impl_PatchesOf)]) ⟨⟨ok_spec_DrawApplyPatches, det_spec_DrawApplyPatches⟩, ⟨⟨ok_impl_ApplyPatches, det_impl_ApplyPatches⟩, ⟨⟨ok_spec_ApplyPatches, det_spec_ApplyPatches⟩, ⟨⟨ok_laws_sameImage, det_laws_sameImage⟩, ⟨⟨ok_laws_alive, det_laws_alive⟩, ⟨⟨ok_impl_PatchesOf, det_impl_PatchesOf⟩, trivial⟩⟩⟩⟩⟩⟩ Try.checked.mixed (fn := Try.f7) (body := Try.f7.body.getD .skip) Try.func7 rfl (by decide) (by kernel_rfl) rfl an_laws_FnApplyPatches fun x ho hx => ?_
  obtain ⟨c, ⟨⟩⟩ := x
  refine Keeps.of (vc_laws_FnApplyPatches c) ?_
  revert c ho hx
  show ∀ (c : List (Int)), _
  intro c ho hx
  dsimp only [C_laws_FnApplyPatches, okPTL, okPT, Ok, Ty.cells, SN.cells, OkL, OkC, okI, ci, cb, cs, cl] at ho
  dsimp only [C_laws_FnApplyPatches, vc, v1, decB, SR.pre] at hx
  have h1 := @pats_ok
  have h2 := @apP_ok
  have h3 := @apP_len
  have h4 : ∀ m l, patB m l = false → apP m l = ⟨0, []⟩ := fun m l h => by rw [apP, if_neg (by simp [h])]
  simp only [decide_eq_true_eq, decide_eq_false_iff_not, Bool.not_eq_true', Bool.not_eq_false', and_true, true_and, and_assoc, Int.toNat_natCast, exists_eq_left', exists_eq_left, exists_and_left, Int.not_lt, Int.not_le, Bool.false_eq_true, false_implies, implies_true, forall_const, List.length_append, List.length_cons, List.length_nil, Int.sub_add_cancel, Int.add_sub_cancel, and_imp, ex_img, ex_mem, ex_fix, ex_pat, forall_eq', forall_eq]; (repeat' first | apply And.intro | (intro x hq _; replace hq := List.mem_of_getElem? hq; simp only [List.mem_cons, List.not_mem_nil, or_false] at hq) | intro _); all_goals (try omega)
  all_goals first | exact patBd_sz (by assumption) | skip
  all_goals first | omega | exact Nat.le_trans (imgBd_len (by assumption)) (by omega) | contradiction | grind | skip
def C_laws_FnExactPatchesOf : Con := { ps := [.ro (.st .img), .ro (.st .img)], out := fun x => let a : Img := x.1; let b : Img := x.2.1; vc .bool true, det := true }
def G_laws_FnExactPatchesOf : Cfg := mkG (tyL [(3, .i), (5, .u), (4, .bool), (9, .str), (126, .int .u64), (45, .st .fixup), (24, .st .img), (91, .st .patch), (65, .st .hash), (63, .list .i), (61, .list .str), (22, .list .u), (41, .st .fixup), (33, .st .img), (72, .st .hash)]) [(20, C_laws_szImage), (21, C_laws_toImage), (17, C_spec_PatchesOf), (16, C_impl_PatchesOf), (22, C_laws_eqPatchS), (23, C_laws_eqImage), (24, C_laws_markImage), (25, C_laws_markPatchS), (26, C_laws_heldPatchS)] false
def an_laws_FnExactPatchesOf : PTL C_laws_FnExactPatchesOf.ps → Nat → Option Ann := fun _ _ => none
set_option maxRecDepth 200000 in
theorem vc_laws_FnExactPatchesOf (a : Img) (b : Img) : (keeps Try.prog G_laws_FnExactPatchesOf (an_laws_FnExactPatchesOf (a, b, ())) (Try.f4.body.getD .skip) Try.f4.results.toList C_laws_FnExactPatchesOf (a, b, ())) = (((((0 : Int) ≤ (1048576 : Int)) ∧
 ((1048576 : Int) ≤ (1048576 : Int))) ∧
 ((((decide ((szR (szIm a) (1048576 : Int)) < (0 : Int))) = true) →
 ((true = true) ∧
 True)) ∧
 (((decide ((szR (szIm a) (1048576 : Int)) < (0 : Int))) = false) →
 ((((0 : Int) ≤ (szR (szIm a) (1048576 : Int))) ∧
 ((szR (szIm a) (1048576 : Int)) ≤ (1048576 : Int))) ∧
 ((((decide ((szR (szIm b) (szR (szIm a) (1048576 : Int))) < (0 : Int))) = true) →
 ((true = true) ∧
 True)) ∧
 (((decide ((szR (szIm b) (szR (szIm a) (1048576 : Int))) < (0 : Int))) = false) →
 (((szIm a) ≤ (1048576 : Int)) ∧
 (((szIm b) ≤ (1048576 : Int)) ∧
 ((((List.length (Img.bytes a)) ≤ (1048576 : Nat)) ∧
 ((List.length (Img.bytes b)) ≤ (1048576 : Nat))) ∧
 (((szIm a) ≤ (1048576 : Int)) ∧
 (((szIm b) ≤ (1048576 : Int)) ∧
 ((((Bool.not (decide (@Eq (List Patch) (pats a b) (pats a b)))) = true) →
 ((false = true) ∧
 True)) ∧
 (((Bool.not (decide (@Eq (List Patch) (pats a b) (pats a b)))) = false) →
 ((((decide ((patOk a b) ≠ (patOk a b))) = true) →
 ((false = true) ∧
 True)) ∧
 (((decide ((patOk a b) ≠ (patOk a b))) = false) →
 (((szIm a) ≤ (1048576 : Int)) ∧
 ((((Bool.not (decide (@Eq Img a a))) = true) →
 ((false = true) ∧
 True)) ∧
 (((Bool.not (decide (@Eq Img a a))) = false) →
 (((szIm b) ≤ (1048576 : Int)) ∧
 ((((Bool.not (decide (@Eq Img b b))) = true) →
 ((false = true) ∧
 True)) ∧
 (((Bool.not (decide (@Eq Img b b))) = false) →
 ((((0 : Int) ≤ (1 : Int)) ∧
 (((1 : Int) + (cIm a)) ≤ (1000000000000 : Int))) ∧
 ((((0 : Int) ≤ ((1 : Int) + (cIm a))) ∧
 ((((1 : Int) + (cIm a)) + (cIm b)) ≤ (1000000000000 : Int))) ∧
 ((((decide ((((1 : Int) + (cIm a)) + (cIm b)) < (0 : Int))) = true) →
 ((false = true) ∧
 True)) ∧
 (((decide ((((1 : Int) + (cIm a)) + (cIm b)) < (0 : Int))) = false) →
 ((((Bool.not (decide (@Eq (List Patch) (pats a b) (pats a b)))) = true) →
 ((false = true) ∧
 True)) ∧
 (((Bool.not (decide (@Eq (List Patch) (pats a b) (pats a b)))) = false) →
 ((((decide ((patOk a b) ≠ (patOk a b))) = true) →
 ((false = true) ∧
 True)) ∧
 (((decide ((patOk a b) ≠ (patOk a b))) = false) →
 ((((0 : Int) ≤ (1 : Int)) ∧
 (((1 : Int) + (@sumI Patch cPa (pats a b))) ≤ (1000000000000 : Int))) ∧
 ((((0 : Int) ≤ (1 : Int)) ∧
 (((1 : Int) + (@sumI Patch cPa (@mkL Patch mkPa cPa (pats a b) (1 : Int)))) ≤ (1000000000000 : Int))) ∧
 ((((decide ((@hdL Patch hPa (@mkL Patch mkPa cPa (pats a b) (1 : Int)) (1 : Int)) < (0 : Int))) = true) →
 ((false = true) ∧
 True)) ∧
 (((decide ((@hdL Patch hPa (@mkL Patch mkPa cPa (pats a b) (1 : Int)) (1 : Int)) < (0 : Int))) = false) →
 ((((decide ((@hdL Patch hPa (@mkL Patch mkPa cPa (pats a b) (1 : Int)) (1 : Int)) ≠ ((1 : Int) + (@sumI Patch cPa (pats a b))))) = true) →
 ((false = true) ∧
 True)) ∧
 (((decide ((@hdL Patch hPa (@mkL Patch mkPa cPa (pats a b) (1 : Int)) (1 : Int)) ≠ ((1 : Int) + (@sumI Patch cPa (pats a b))))) = false) →
 (((szIm a) ≤ (1048576 : Int)) ∧
 (((szIm b) ≤ (1048576 : Int)) ∧
 ((((Bool.not (decide (@Eq (List Patch) (pats a b) (pats a b)))) = true) →
 ((false = true) ∧
 True)) ∧
 (((Bool.not (decide (@Eq (List Patch) (pats a b) (pats a b)))) = false) →
 ((((decide ((patOk a b) ≠ (patOk a b))) = true) →
 ((false = true) ∧
 True)) ∧
 (((decide ((patOk a b) ≠ (patOk a b))) = false) →
 ((((0 : Int) ≤ (1 : Int)) ∧
 (((1 : Int) + (@sumI Patch cPa (@mkL Patch mkPa cPa (pats a b) (1 : Int)))) ≤ (1000000000000 : Int))) ∧
 ((((decide ((@hdL Patch hPa (@mkL Patch mkPa cPa (pats a b) (1 : Int)) (1 : Int)) < (0 : Int))) = true) →
 ((false = true) ∧
 True)) ∧
 (((decide ((@hdL Patch hPa (@mkL Patch mkPa cPa (pats a b) (1 : Int)) (1 : Int)) < (0 : Int))) = false) →
 ((((decide ((@hdL Patch hPa (@mkL Patch mkPa cPa (pats a b) (1 : Int)) (1 : Int)) ≠ ((1 : Int) + (@sumI Patch cPa (pats a b))))) = true) →
 ((false = true) ∧
 True)) ∧
 (((decide ((@hdL Patch hPa (@mkL Patch mkPa cPa (pats a b) (1 : Int)) (1 : Int)) ≠ ((1 : Int) + (@sumI Patch cPa (pats a b))))) = false) →
 ((true = true) ∧
 True)))))))))))))))))))))))))))))))))))))))))))))))) := by kernel_rfl
theorem det_laws_FnExactPatchesOf : C_laws_FnExactPatchesOf.det = true → ∀ x, (C_laws_FnExactPatchesOf.out x).Det := fun _ x => by simp only [C_laws_FnExactPatchesOf]; repeat (first | exact Det.ret _ | exact Det.vc' | apply Det.req | apply Det.giv | apply Det.fork | apply Det.bif' | intro _)
set_option maxRecDepth 200000 in
set_option maxHeartbeats 1000000 in
theorem ok_laws_FnExactPatchesOf : ConOK Try.prog 4 C_laws_FnExactPatchesOf := by
  refine con_mk (wr := false) (ty := tyL [(3, .i), (5, .u), (4, .bool), (9, .str), (126, .int .u64), (45, .st .fixup), (24, .st .img), (91, .st .patch), (65, .st .hash), (63, .list .i), (61, .list .str), (22, .list .u), (41, .st .fixup), (33, .st .img), (72, .st .hash)]) (l := [(20, C_laws_szImage), (21, C_laws_toImage), (17, C_spec_PatchesOf), (16, C_impl_PatchesOf), (22, C_laws_eqPatchS), (23, C_laws_eqImage), (24, C_laws_markImage), (25, C_laws_markPatchS), (26, C_laws_heldPatchS)]) ⟨⟨ok_laws_szImage, det_laws_szImage⟩, ⟨⟨ok_laws_toImage, det_laws_toImage⟩, ⟨⟨ok_spec_PatchesOf, det_spec_PatchesOf⟩, ⟨⟨ok_impl_PatchesOf, det_impl_PatchesOf⟩, ⟨⟨ok_laws_eqPatchS, det_laws_eqPatchS⟩, ⟨⟨ok_laws_eqImage, det_laws_eqImage⟩, ⟨⟨ok_laws_markImage, det_laws_markImage⟩, ⟨⟨ok_laws_markPatchS, det_laws_markPatchS⟩, ⟨⟨ok_laws_heldPatchS, det_laws_heldPatchS⟩, trivial⟩⟩⟩⟩⟩⟩⟩⟩⟩ Try.checked.mixed (fn := Try.f4) (body := Try.f4.body.getD .skip) Try.func4 rfl (by decide) (by kernel_rfl) rfl an_laws_FnExactPatchesOf fun x ho hx => ?_
  obtain ⟨a, b, ⟨⟩⟩ := x
  refine Keeps.of (vc_laws_FnExactPatchesOf a b) ?_
  revert a b ho hx
  show ∀ (a : Img) (b : Img), _
  intro a b ho hx
  dsimp only [C_laws_FnExactPatchesOf, okPTL, okPT, Ok, Ty.cells, SN.cells, OkL, OkC, okI, ci, cb, cs, cl] at ho
  dsimp only [C_laws_FnExactPatchesOf, vc, v1, decB, SR.pre] at hx
  have sza : szIm a = a.bytes.length := rfl
  have szb : szIm b = b.bytes.length := rfl
  have ca : cIm a = a.bytes.length := cOne_len _
  have cb : cIm b = b.bytes.length := cOne_len _
  have hl : patOk a b = true → (pats a b).length ≤ 1000 := pats_len a b
  have hn := @pats_no a b
  have hs := pats_sum a b
  have hs2 := mkPa_sum (pats a b) 1
  have hm := hdL_mk cPa_nn hPa_mk (pats a b) 1 (by omega)
  have hnn := sumI_nn cPa_nn (pats a b)
  simp only [decide_eq_true_eq, decide_eq_false_iff_not, Bool.not_eq_true', Bool.not_eq_false', and_true, true_and, Int.toNat_natCast, exists_eq_left', exists_eq_left, exists_and_left, Int.not_lt, Int.not_le, Bool.false_eq_true, false_implies, implies_true, forall_const, List.length_append, List.length_cons, List.length_nil, Int.sub_add_cancel, Int.add_sub_cancel, and_imp, get_set_iff, forall_eq', forall_eq, List.set_set, mkd_get, mkd_len, List.length_set, Option.some.injEq]; (repeat' first | intro _ | apply And.intro); all_goals (try omega)
  all_goals first | omega | grind [szR] | skip

theorem rd_u : Reads Try.prog 5 [.u] := reads_u8 Try.underlying5
theorem rd_uL : Reads Try.prog 22 [(.list .u)] := reads_slice (t' := .u) Try.underlying22 (by kernel_rfl) (by decide) rd_u
set_option maxRecDepth 100000 in
theorem lifted_FnPatchesFew (os : Os) (started : os.Started) (H : Type) (enc : TypeId × Value → H) :
    ReturnsInHanded {} Try.checked os 3 .any (Rows.fnPatchesFewSpec.pre6 enc Try.prog Try.f3 Rows.fnPatchesFewRow.domain false) (Rows.fnPatchesFewSpec.post enc Try.prog Try.f3 false true false false) := by
  refine returnsInHanded_of_change (C := Try.checked) head_own started (by kernel_rfl) Try.func3
    (ChangeSpec.witness6 (enc := enc) (C := Try.checked) false ⟨#[], #[.slice none 0 0], []⟩ 8 (by kernel_rfl) (by kernel_rfl) (by kernel_rfl) (by kernel_rfl)) ?_
  intro W base args ds gs before hval0 hW _ _
  have hval : ∀ (j : Nat) t v, Try.f3.params[j]? = some t → args[j]? = some v → Value.okWide Try.prog W .any base t v := hval0
  have hW' := hW
  obtain ⟨p, q, hA0, hV, rfl, hfz, hnd⟩ := hW
  have hA : DataW.TrodAll enc Try.prog W 0 (fun _ => true) true Try.f3.params.toList args.toList ds p := hA0
  rw [Try.params3] at hA hval
  obtain ⟨v0, vs0, d0, ds0, p0, q0, hargs, rfl, rfl, h0, r0⟩ := trodAll_cons hA
  obtain ⟨rfl, rfl, rfl⟩ := trodAll_nil r0
  obtain rfl : args = #[v0] := by cases args; simp_all
  obtain ⟨rfl, rfl⟩ := trodVars_none hV
  have k0 := h0
  obtain ⟨x0, g0⟩ := open_slice1 Try.underlying22 rd_uL (hval 0 22 v0 rfl rfl) h0
  clear hA0 hval0 hval
  refine (law_calls ok_laws_FnPatchesFew (x0, ()) rfl rfl (W := W) (vals := [v0]) ⟨g0, trivial⟩).mono fun e W' ⟨he, bel⟩ => ?_
  subst he
  exact ⟨_, rfl, _, _, _, [], _, [], hW', trodAll_mk1 (shut_bool Try.underlying4 _), (trodAll_cons_mk (Below.trod head_laid (by kernel_rfl) (of_decide_eq_true (by kernel_rfl)) k0 bel (trod_lt_ k0)) trodAll_mk0), rfl, bel.frame _, fun h => by cases h⟩

theorem over_FnPatchesFew : Rows.fnPatchesFewRow.holds Try.pinned (OpenSpec.ofChange Rows.fnPatchesFewSpec) :=
  OpenClaim.holds_of_wide 3 Try.f3 rfl rfl rfl rfl rfl rfl rfl ⟨rfl, rfl, rfl, rfl, rfl⟩ rfl rfl rfl rfl rfl (by kernel_rfl) Try.func3 (joined_of head_laid head_rowed head_stops head_stopk head_heard head_enter (show (Rows.fnPatchesFewRow.lifted == Try.prog.liftsFinal) = true by rw [head_final]; rfl) (show (Try.prog.make == some Rows.fnPatchesFewRow.make) = true by rw [head_make]; rfl) (by kernel_rfl))
    (of_decide_eq_true (by kernel_rfl)) (by unfold Func.isWrapper; first | (rw [if_pos (by decide +kernel)]; kernel_rfl) | (rw [if_neg (by decide +kernel)]; exact ⟨rfl, rfl⟩))
    (fun os started H enc _ => lifted_FnPatchesFew os started H enc)

theorem proved_FnPatchesFew : Rows.FnPatchesFewSaid := over_FnPatchesFew
#print axioms proved_FnPatchesFew


set_option maxRecDepth 100000 in
theorem lifted_FnPatchesOf (os : Os) (started : os.Started) (H : Type) (enc : TypeId × Value → H) :
    ReturnsInHanded {} Try.checked os 6 .any (Rows.fnPatchesOfSpec.pre6 enc Try.prog Try.f6 Rows.fnPatchesOfRow.domain false) (Rows.fnPatchesOfSpec.post enc Try.prog Try.f6 false true false false) := by
  refine returnsInHanded_of_change (C := Try.checked) head_own started (by kernel_rfl) Try.func6
    (ChangeSpec.witness6 (enc := enc) (C := Try.checked) false ⟨#[], #[.slice none 0 0], []⟩ 8 (by kernel_rfl) (by kernel_rfl) (by kernel_rfl) (by kernel_rfl)) ?_
  intro W base args ds gs before hval0 hW _ _
  have hval : ∀ (j : Nat) t v, Try.f6.params[j]? = some t → args[j]? = some v → Value.okWide Try.prog W .any base t v := hval0
  have hW' := hW
  obtain ⟨p, q, hA0, hV, rfl, hfz, hnd⟩ := hW
  have hA : DataW.TrodAll enc Try.prog W 0 (fun _ => true) true Try.f6.params.toList args.toList ds p := hA0
  rw [Try.params6] at hA hval
  obtain ⟨v0, vs0, d0, ds0, p0, q0, hargs, rfl, rfl, h0, r0⟩ := trodAll_cons hA
  obtain ⟨rfl, rfl, rfl⟩ := trodAll_nil r0
  obtain rfl : args = #[v0] := by cases args; simp_all
  obtain ⟨rfl, rfl⟩ := trodVars_none hV
  have k0 := h0
  obtain ⟨x0, g0⟩ := open_slice1 Try.underlying22 rd_uL (hval 0 22 v0 rfl rfl) h0
  clear hA0 hval0 hval
  refine (law_calls ok_laws_FnPatchesOf (x0, ()) rfl rfl (W := W) (vals := [v0]) ⟨g0, trivial⟩).mono fun e W' ⟨he, bel⟩ => ?_
  subst he
  exact ⟨_, rfl, _, _, _, [], _, [], hW', trodAll_mk1 (shut_bool Try.underlying4 _), (trodAll_cons_mk (Below.trod head_laid (by kernel_rfl) (of_decide_eq_true (by kernel_rfl)) k0 bel (trod_lt_ k0)) trodAll_mk0), rfl, bel.frame _, fun h => by cases h⟩

theorem over_FnPatchesOf : Rows.fnPatchesOfRow.holds Try.pinned (OpenSpec.ofChange Rows.fnPatchesOfSpec) :=
  OpenClaim.holds_of_wide 6 Try.f6 rfl rfl rfl rfl rfl rfl rfl ⟨rfl, rfl, rfl, rfl, rfl⟩ rfl rfl rfl rfl rfl (by kernel_rfl) Try.func6 (joined_of head_laid head_rowed head_stops head_stopk head_heard head_enter (show (Rows.fnPatchesOfRow.lifted == Try.prog.liftsFinal) = true by rw [head_final]; rfl) (show (Try.prog.make == some Rows.fnPatchesOfRow.make) = true by rw [head_make]; rfl) (by kernel_rfl))
    (of_decide_eq_true (by kernel_rfl)) (by unfold Func.isWrapper; first | (rw [if_pos (by decide +kernel)]; kernel_rfl) | (rw [if_neg (by decide +kernel)]; exact ⟨rfl, rfl⟩))
    (fun os started H enc _ => lifted_FnPatchesOf os started H enc)

theorem proved_FnPatchesOf : Rows.FnPatchesOfSaid := over_FnPatchesOf
#print axioms proved_FnPatchesOf


set_option maxRecDepth 100000 in
theorem lifted_FnApplyPatches (os : Os) (started : os.Started) (H : Type) (enc : TypeId × Value → H) :
    ReturnsInHanded {} Try.checked os 7 .any (Rows.fnApplyPatchesSpec.pre6 enc Try.prog Try.f7 Rows.fnApplyPatchesRow.domain false) (Rows.fnApplyPatchesSpec.post enc Try.prog Try.f7 false true false false) := by
  refine returnsInHanded_of_change (C := Try.checked) head_own started (by kernel_rfl) Try.func7
    (ChangeSpec.witness6 (enc := enc) (C := Try.checked) false ⟨#[], #[.slice none 0 0], []⟩ 8 (by kernel_rfl) (by kernel_rfl) (by kernel_rfl) (by kernel_rfl)) ?_
  intro W base args ds gs before hval0 hW _ _
  have hval : ∀ (j : Nat) t v, Try.f7.params[j]? = some t → args[j]? = some v → Value.okWide Try.prog W .any base t v := hval0
  have hW' := hW
  obtain ⟨p, q, hA0, hV, rfl, hfz, hnd⟩ := hW
  have hA : DataW.TrodAll enc Try.prog W 0 (fun _ => true) true Try.f7.params.toList args.toList ds p := hA0
  rw [Try.params7] at hA hval
  obtain ⟨v0, vs0, d0, ds0, p0, q0, hargs, rfl, rfl, h0, r0⟩ := trodAll_cons hA
  obtain ⟨rfl, rfl, rfl⟩ := trodAll_nil r0
  obtain rfl : args = #[v0] := by cases args; simp_all
  obtain ⟨rfl, rfl⟩ := trodVars_none hV
  have k0 := h0
  obtain ⟨x0, g0⟩ := open_slice1 Try.underlying22 rd_uL (hval 0 22 v0 rfl rfl) h0
  clear hA0 hval0 hval
  refine (law_calls ok_laws_FnApplyPatches (x0, ()) rfl rfl (W := W) (vals := [v0]) ⟨g0, trivial⟩).mono fun e W' ⟨he, bel⟩ => ?_
  subst he
  exact ⟨_, rfl, _, _, _, [], _, [], hW', trodAll_mk1 (shut_bool Try.underlying4 _), (trodAll_cons_mk (Below.trod head_laid (by kernel_rfl) (of_decide_eq_true (by kernel_rfl)) k0 bel (trod_lt_ k0)) trodAll_mk0), rfl, bel.frame _, fun h => by cases h⟩

theorem over_FnApplyPatches : Rows.fnApplyPatchesRow.holds Try.pinned (OpenSpec.ofChange Rows.fnApplyPatchesSpec) :=
  OpenClaim.holds_of_wide 7 Try.f7 rfl rfl rfl rfl rfl rfl rfl ⟨rfl, rfl, rfl, rfl, rfl⟩ rfl rfl rfl rfl rfl (by kernel_rfl) Try.func7 (joined_of head_laid head_rowed head_stops head_stopk head_heard head_enter (show (Rows.fnApplyPatchesRow.lifted == Try.prog.liftsFinal) = true by rw [head_final]; rfl) (show (Try.prog.make == some Rows.fnApplyPatchesRow.make) = true by rw [head_make]; rfl) (by kernel_rfl))
    (of_decide_eq_true (by kernel_rfl)) (by unfold Func.isWrapper; first | (rw [if_pos (by decide +kernel)]; kernel_rfl) | (rw [if_neg (by decide +kernel)]; exact ⟨rfl, rfl⟩))
    (fun os started H enc _ => lifted_FnApplyPatches os started H enc)

theorem proved_FnApplyPatches : Rows.FnApplyPatchesSaid := over_FnApplyPatches
#print axioms proved_FnApplyPatches


theorem rd_i : Reads Try.prog 3 [.i] := reads_int Try.underlying3
theorem rd_img : Reads Try.prog 33 (SN.sig .img) := reads_fs (sig := SN.sig .img) Try.underlying33 (by kernel_rfl) (fs_cons (sig := [.i]) rfl (by kernel_rfl) rd_i (fs_cons (sig := [(.list .u)]) rfl (by kernel_rfl) rd_uL fs_nil))
set_option maxRecDepth 100000 in
theorem lifted_FnExactPatchesOf (os : Os) (started : os.Started) (H : Type) (enc : TypeId × Value → H) :
    ReturnsInHanded {} Try.checked os 4 .any (Rows.fnExactPatchesOfSpec.pre6 enc Try.prog Try.f4 Rows.fnExactPatchesOfRow.domain false) (Rows.fnExactPatchesOfSpec.post enc Try.prog Try.f4 false true false false) := by
  refine returnsInHanded_of_change (C := Try.checked) head_own started (by kernel_rfl) Try.func4
    (ChangeSpec.witness6 (enc := enc) (C := Try.checked) false ⟨#[], #[.agg #[.int .i64 0, .slice none 0 0], .agg #[.int .i64 0, .slice none 0 0]], []⟩ 8 (by kernel_rfl) (by kernel_rfl) (by kernel_rfl) (by kernel_rfl)) ?_
  intro W base args ds gs before hval0 hW _ _
  have hval : ∀ (j : Nat) t v, Try.f4.params[j]? = some t → args[j]? = some v → Value.okWide Try.prog W .any base t v := hval0
  have hW' := hW
  obtain ⟨p, q, hA0, hV, rfl, hfz, hnd⟩ := hW
  have hA : DataW.TrodAll enc Try.prog W 0 (fun _ => true) true Try.f4.params.toList args.toList ds p := hA0
  rw [Try.params4] at hA hval
  obtain ⟨v0, vs0, d0, ds0, p0, q0, hargs, rfl, rfl, h0, r0⟩ := trodAll_cons hA
  obtain ⟨v1, vs1, d1, ds1, p1, q1, rfl, rfl, rfl, h1, r1⟩ := trodAll_cons r0
  obtain ⟨rfl, rfl, rfl⟩ := trodAll_nil r1
  obtain rfl : args = #[v0, v1] := by cases args; simp_all
  obtain ⟨rfl, rfl⟩ := trodVars_none hV
  have k0 := h0
  obtain ⟨x0, g0⟩ := open_agg Try.underlying33 rd_img (hval 0 33 v0 rfl rfl) h0
  have k1 := h1
  obtain ⟨x1, g1⟩ := open_agg Try.underlying33 rd_img (hval 1 33 v1 rfl rfl) h1
  clear hA0 hval0 hval
  refine (law_calls ok_laws_FnExactPatchesOf (x0, x1, ()) rfl rfl (W := W) (vals := [v0, v1]) ⟨g0, g1, trivial⟩).mono fun e W' ⟨he, bel⟩ => ?_
  subst he
  exact ⟨_, rfl, _, _, _, [], _, [], hW', trodAll_mk1 (shut_bool Try.underlying4 _), (trodAll_cons_mk (Below.trod head_laid (by kernel_rfl) (of_decide_eq_true (by kernel_rfl)) k0 bel (trod_lt_ k0)) (trodAll_cons_mk (Below.trod head_laid (by kernel_rfl) (of_decide_eq_true (by kernel_rfl)) k1 bel (trod_lt_ k1)) trodAll_mk0)), rfl, bel.frame _, fun h => by cases h⟩

theorem over_FnExactPatchesOf : Rows.fnExactPatchesOfRow.holds Try.pinned (OpenSpec.ofChange Rows.fnExactPatchesOfSpec) :=
  OpenClaim.holds_of_wide 4 Try.f4 rfl rfl rfl rfl rfl rfl rfl ⟨rfl, rfl, rfl, rfl, rfl⟩ rfl rfl rfl rfl rfl (by kernel_rfl) Try.func4 (joined_of head_laid head_rowed head_stops head_stopk head_heard head_enter (show (Rows.fnExactPatchesOfRow.lifted == Try.prog.liftsFinal) = true by rw [head_final]; rfl) (show (Try.prog.make == some Rows.fnExactPatchesOfRow.make) = true by rw [head_make]; rfl) (by kernel_rfl))
    (of_decide_eq_true (by kernel_rfl)) (by unfold Func.isWrapper; first | (rw [if_pos (by decide +kernel)]; kernel_rfl) | (rw [if_neg (by decide +kernel)]; exact ⟨rfl, rfl⟩))
    (fun os started H enc _ => lifted_FnExactPatchesOf os started H enc)

theorem proved_FnExactPatchesOf : Rows.FnExactPatchesOfSaid := over_FnExactPatchesOf
#print axioms proved_FnExactPatchesOf

end Go.Proofs.Ytdghhckdjbpfbaa
