/- The law FnPatchesValid. -/
import Derived.Test.YtpdddafaelbgkaaDrawI
import Derived.Test.YtpdddafaelbgkaaHead
set_option linter.unusedVariables false
set_option linter.unusedSimpArgs false
namespace Go.Proofs.Ytpdddafaelbgkaa
open Go Go.RowKit Go.ChangeShapes Go.WideShapes Go.Deep


theorem patBd_iff {l : List Patch} : patBd l ↔ l.length ≤ 5 ∧ patA l := Iff.rfl
theorem patsB_app {hi b : Int} : ∀ {l : List Patch} {a : Int}, patsB hi a (l ++ [⟨b, []⟩]) = false := by
  intro l
  induction l with
  | nil => intro a; simp [patsB]
  | cons p l ih => intro a; simp [patsB, ih]
theorem patB_app {m : Img} {l : List Patch} {b : Int} : patB m (l ++ [⟨b, []⟩]) = false := by simp [patB, patsB_app]
theorem patsB_mono {hi : Int} : ∀ {l : List Patch} {a a' : Int}, a' ≤ a → patsB hi a l = true → patsB hi a' l = true := by
  intro l
  cases l with
  | nil => intro a a' _ _; rfl
  | cons p l =>
    intro a a' h h'
    simp only [patsB, Bool.and_eq_true, decide_eq_true_eq] at h' ⊢
    exact ⟨⟨h'.1.1, by omega, h'.1.2.2⟩, h'.2⟩
theorem patsB_drop {hi : Int} : ∀ {l : List Patch} {a : Int} (k : Nat), patsB hi a l = true → patsB hi a (l.drop k) = true := by
  intro l
  induction l with
  | nil => intro a k h; simpa using h
  | cons p l ih =>
    intro a k h
    cases k with
    | zero => exact h
    | succ k =>
      simp only [patsB, Bool.and_eq_true, decide_eq_true_eq] at h
      simp only [List.drop_succ_cons]
      exact patsB_mono (a := p.at_ + p.bytes.length + 1) (by omega) (ih k h.2)
theorem patB_drop {m : Img} {l : List Patch} {k : Nat} (h : patB m l = true) : patB m (l.drop k) = true := by
  simp only [patB, Bool.and_eq_true, decide_eq_true_eq] at h ⊢
  refine ⟨⟨h.1.1, by simp; omega⟩, patsB_drop k h.2⟩
def rdIP (e : TypeId) (m : Img) (l : List Patch) : SR := .ret { val := .tup [(true, (SN.cells .img m).map .c), (false, [.sl 100 []])], ins := [(100, .row (some e) (.st .patch) l false)] }
def C_spec_DrawPatchesValid : Con := { ps := [.ro (.list .u)], out := fun x => let c : List (Int) := x.1; .all Img fun m => .all (List Patch) fun l => .giv (imgBd m ∧ patBd l) (rdIP 30 m l), det := false }
def G_spec_DrawPatchesValid : Cfg := mkG (tyL [(3, .i), (5, .u), (4, .bool), (9, .str), (163, .int .u64), (71, .st .fixup), (24, .st .img), (39, .st .region), (35, .st .mem), (30, .st .patch), (94, .st .hash), (92, .list .i), (90, .list .str), (22, .list .u), (67, .st .fixup), (52, .st .img), (149, .st .region), (55, .st .mem), (101, .st .hash)]) [(94, C_spec_l20Open), (95, C_spec_l20Image), (96, C_spec_l20Patches)] false
def an_spec_DrawPatchesValid : PTL C_spec_DrawPatchesValid.ps → Nat → Option Ann := fun x kk_ => let c : List (Int) := x.1; if kk_ = 1003 then some (.all (Img) fun m => .all (Int) fun p => .giv (imgBd m ∧ 0 ≤ p ∧ p ≤ 100) (.mk [(2, aref 40), (4, aref 41), (5, aref 42)] [(40, bx (ast .img ⟨0, []⟩)), (41, bx (ast .reader ⟨c.take 2000, p⟩)), (42, bx (ast .img m))] (0))) else none
set_option maxRecDepth 200000 in
theorem vc_spec_DrawPatchesValid (c : List (Int)) : (keeps Try.prog G_spec_DrawPatchesValid (an_spec_DrawPatchesValid (c, ())) (Try.f24.body.getD .skip) Try.f24.results.toList C_spec_DrawPatchesValid (c, ())) = (((((0 : Int) ≤ (0 : Int)) ∧
 (((0 : Int) ≤ (500000000 : Int)) ∧
 ((9 : Int) ≤ (1000000 : Int)))) ∧
 (∀ (x_1 : Go.Proofs.Ytpdddafaelbgkaa.Img), (∀ (x_2 : Int), ((((0 : Int) ≤ x_2) ∧
 ((x_2 ≤ ((0 : Int) + (50 : Int))) ∧
 (Go.Proofs.Ytpdddafaelbgkaa.imgBd x_1))) →
 (∃ (x_3 : Go.Proofs.Ytpdddafaelbgkaa.Img), (∃ (x_4 : Int), (((0 : Int) = (0 : Int)) ∧
 ((@Eq (List Int) ([] : List Int) ([] : List Int)) ∧
 ((@Eq (List Int) (List.take (2000 : Nat) c) (List.take (2000 : Nat) c)) ∧
 ((x_2 = x_4) ∧
 (((Go.Proofs.Ytpdddafaelbgkaa.Img.base x_1) = (Go.Proofs.Ytpdddafaelbgkaa.Img.base x_3)) ∧
 ((@Eq (List Int) (Go.Proofs.Ytpdddafaelbgkaa.Img.bytes x_1) (Go.Proofs.Ytpdddafaelbgkaa.Img.bytes x_3)) ∧
 (((Go.Proofs.Ytpdddafaelbgkaa.imgBd x_3) ∧
 (((0 : Int) ≤ x_4) ∧
 (x_4 ≤ (100 : Int)))) ∧
 (∀ (x_5 : Go.Proofs.Ytpdddafaelbgkaa.Img), (∀ (x_6 : Int), (((Go.Proofs.Ytpdddafaelbgkaa.imgBd x_5) ∧
 (((0 : Int) ≤ x_6) ∧
 (x_6 ≤ (100 : Int)))) →
 (((0 : Nat) = (0 : Nat)) →
 ((((0 : Int) ≤ x_6) ∧
 ((x_6 ≤ (100000000 : Int)) ∧
 (((2 : Int) ≤ (1000000 : Int)) ∧
 (Go.Proofs.Ytpdddafaelbgkaa.imgBd x_5)))) ∧
 (∀ (x_7 : (List Go.Proofs.Ytpdddafaelbgkaa.Patch)), (∀ (x_8 : Int), (((x_6 ≤ x_8) ∧
 ((x_8 ≤ (x_6 + (100 : Int))) ∧
 (Go.Proofs.Ytpdddafaelbgkaa.patBd x_7))) →
 (∃ (x_9 : Go.Proofs.Ytpdddafaelbgkaa.Img), (∃ (x_10 : (List Go.Proofs.Ytpdddafaelbgkaa.Patch)), ((((Go.Proofs.Ytpdddafaelbgkaa.Img.base x_5) = (Go.Proofs.Ytpdddafaelbgkaa.Img.base x_9)) ∧
 ((@Eq (List Int) (Go.Proofs.Ytpdddafaelbgkaa.Img.bytes x_5) (Go.Proofs.Ytpdddafaelbgkaa.Img.bytes x_9)) ∧
 ((@Eq (List Go.Proofs.Ytpdddafaelbgkaa.Patch) x_7 x_10) ∧
 True))) ∧
 ((Go.Proofs.Ytpdddafaelbgkaa.imgBd x_9) ∧
 (Go.Proofs.Ytpdddafaelbgkaa.patBd x_10))))))))))))))))))))))))))) := by kernel_rfl
theorem det_spec_DrawPatchesValid : C_spec_DrawPatchesValid.det = true → ∀ x, (C_spec_DrawPatchesValid.out x).Det := fun h => absurd h Bool.false_ne_true
set_option maxRecDepth 200000 in
set_option maxHeartbeats 1000000 in
theorem ok_spec_DrawPatchesValid : ConOK Try.prog 24 C_spec_DrawPatchesValid := by
  refine con_mk (wr := false) (ty := tyL [(3, .i), (5, .u), (4, .bool), (9, .str), (163, .int .u64), (71, .st .fixup), (24, .st .img), (39, .st .region), (35, .st .mem), (30, .st .patch), (94, .st .hash), (92, .list .i), (90, .list .str), (22, .list .u), (67, .st .fixup), (52, .st .img), (149, .st .region), (55, .st .mem), (101, .st .hash)]) (l := [(94, C_spec_l20Open), (95, C_spec_l20Image), (96, C_spec_l20Patches)]) ⟨⟨ok_spec_l20Open, det_spec_l20Open⟩, ⟨⟨ok_spec_l20Image, det_spec_l20Image⟩, ⟨⟨ok_spec_l20Patches, det_spec_l20Patches⟩, trivial⟩⟩⟩ Try.checked.mixed (fn := Try.f24) (body := Try.f24.body.getD .skip) Try.func24 rfl (by decide) (by kernel_rfl) rfl an_spec_DrawPatchesValid fun x ho hx => ?_
  obtain ⟨c, ⟨⟩⟩ := x
  refine Keeps.of (vc_spec_DrawPatchesValid c) ?_
  revert c ho hx
  show ∀ (c : List (Int)), _
  intro c ho hx
  dsimp only [C_spec_DrawPatchesValid, okPTL, okPT, Ok, Ty.cells, SN.cells, OkL, OkC, okI, ci, cb, cs, cl] at ho
  dsimp only [C_spec_DrawPatchesValid, vc, v1, decB, SR.pre] at hx
  simp only [decide_eq_true_eq, decide_eq_false_iff_not, Bool.not_eq_true', Bool.not_eq_false', and_true, true_and, and_assoc, Int.toNat_natCast, exists_eq_left', exists_eq_left, exists_and_left, Int.not_lt, Int.not_le, Bool.false_eq_true, false_implies, implies_true, forall_const, List.length_append, List.length_cons, List.length_nil, Int.sub_add_cancel, Int.add_sub_cancel, and_imp, ex_img, ex_mem, ex_fix, ex_pat, forall_eq', forall_eq]; (repeat' first | apply And.intro | (intro x hq _; replace hq := List.mem_of_getElem? hq; simp only [List.mem_cons, List.not_mem_nil, or_false] at hq) | intro _); all_goals (try omega)
  all_goals first | assumption | grind
def C_laws_FnPatchesValid : Con := { ps := [.ro (.list .u)], out := fun x => let c : List (Int) := x.1; vc .bool true, det := true }
def G_laws_FnPatchesValid : Cfg := mkG (tyL [(3, .i), (5, .u), (4, .bool), (9, .str), (163, .int .u64), (71, .st .fixup), (24, .st .img), (39, .st .region), (35, .st .mem), (30, .st .patch), (94, .st .hash), (92, .list .i), (90, .list .str), (22, .list .u), (67, .st .fixup), (52, .st .img), (149, .st .region), (55, .st .mem), (101, .st .hash)]) [(24, C_spec_DrawPatchesValid), (25, C_impl_PatchesValid), (26, C_spec_PatchesValid), (27, C_laws_alive)] false
def an_laws_FnPatchesValid : PTL C_laws_FnPatchesValid.ps → Nat → Option Ann := fun x kk_ => let c : List (Int) := x.1; if kk_ = 1007 then some (.all (Img) fun m => .all (List Patch) fun l => .giv (imgBd m ∧ patBd l) (.mk [(3, aref 30), (4, al (.st .patch) l), (5, ab (patB m l))] [(30, bx (ast .img m))] (0))) else none
set_option maxRecDepth 200000 in
theorem vc_laws_FnPatchesValid (c : List (Int)) : (keeps Try.prog G_laws_FnPatchesValid (an_laws_FnPatchesValid (c, ())) (Try.f3.body.getD .skip) Try.f3.results.toList C_laws_FnPatchesValid (c, ())) = ((((List.length c) ≤ (9223372036854775807 : Nat)) →
 ((((decide ((1048576 : Int) < (@Nat.cast Int _ (List.length c)))) = true) →
 ((true = true) ∧
 True)) ∧
 (((decide ((1048576 : Int) < (@Nat.cast Int _ (List.length c)))) = false) →
 (∀ (x_1 : Go.Proofs.Ytpdddafaelbgkaa.Img), (∀ (x_2 : (List Go.Proofs.Ytpdddafaelbgkaa.Patch)), (((Go.Proofs.Ytpdddafaelbgkaa.imgBd x_1) ∧
 (Go.Proofs.Ytpdddafaelbgkaa.patBd x_2)) →
 ((((decide ((Go.Proofs.Ytpdddafaelbgkaa.patB x_1 x_2) ≠ (Go.Proofs.Ytpdddafaelbgkaa.patB x_1 x_2))) = true) →
 ((false = true) ∧
 True)) ∧
 (((decide ((Go.Proofs.Ytpdddafaelbgkaa.patB x_1 x_2) ≠ (Go.Proofs.Ytpdddafaelbgkaa.patB x_1 x_2))) = false) →
 (∃ (x_3 : Go.Proofs.Ytpdddafaelbgkaa.Img), (∃ (x_4 : (List Go.Proofs.Ytpdddafaelbgkaa.Patch)), ((@Eq (List Go.Proofs.Ytpdddafaelbgkaa.Patch) x_2 x_4) ∧
 (((Go.Proofs.Ytpdddafaelbgkaa.patB x_1 x_2) = (Go.Proofs.Ytpdddafaelbgkaa.patB x_3 x_4)) ∧
 (((Go.Proofs.Ytpdddafaelbgkaa.Img.base x_1) = (Go.Proofs.Ytpdddafaelbgkaa.Img.base x_3)) ∧
 ((@Eq (List Int) (Go.Proofs.Ytpdddafaelbgkaa.Img.bytes x_1) (Go.Proofs.Ytpdddafaelbgkaa.Img.bytes x_3)) ∧
 (((Go.Proofs.Ytpdddafaelbgkaa.imgBd x_3) ∧
 (Go.Proofs.Ytpdddafaelbgkaa.patBd x_4)) ∧
 (∀ (x_5 : Go.Proofs.Ytpdddafaelbgkaa.Img), (∀ (x_6 : (List Go.Proofs.Ytpdddafaelbgkaa.Patch)), (((Go.Proofs.Ytpdddafaelbgkaa.imgBd x_5) ∧
 (Go.Proofs.Ytpdddafaelbgkaa.patBd x_6)) →
 (((0 : Nat) = (0 : Nat)) →
 ((((((0 : Nat) + (List.length x_6)) * (32 : Nat)) ≤ (140737488355328 : Nat)) ∧
 (((0 : Nat) + (List.length x_6)) ≤ (1000000000000 : Nat))) ∧
 ((((((List.length x_6) + (List.length [(Go.Proofs.Ytpdddafaelbgkaa.Patch.mk (Go.Proofs.Ytpdddafaelbgkaa.Img.base x_5) ([] : List Int))])) * (32 : Nat)) ≤ (140737488355328 : Nat)) ∧
 (((List.length x_6) + (List.length [(Go.Proofs.Ytpdddafaelbgkaa.Patch.mk (Go.Proofs.Ytpdddafaelbgkaa.Img.base x_5) ([] : List Int))])) ≤ (1000000000000 : Nat))) ∧
 ((((Bool.not (Go.Proofs.Ytpdddafaelbgkaa.patB x_5 (x_6 ++ [(Go.Proofs.Ytpdddafaelbgkaa.Patch.mk (Go.Proofs.Ytpdddafaelbgkaa.Img.base x_5) ([] : List Int))]))) = true) →
 ((((Bool.not (Go.Proofs.Ytpdddafaelbgkaa.patB x_5 x_6)) = true) →
 ((true = true) ∧
 True)) ∧
 (((Bool.not (Go.Proofs.Ytpdddafaelbgkaa.patB x_5 x_6)) = false) →
 (((List.length x_6) ≤ (9223372036854775807 : Nat)) →
 ((((0 : Int) ≤ (@Nat.cast Int _ (List.length x_6))) ∧
 ((0 : Int) < (2 : Int))) ∧
 ((((0 : Int) ≤ ((@Nat.cast Int _ (List.length x_6)) / (2 : Int))) ∧
 (((@Nat.cast Int _ (List.length x_6)) / (2 : Int)) ≤ (@Nat.cast Int _ (List.length x_6)))) ∧
 ((((Go.Proofs.Ytpdddafaelbgkaa.patB x_5 (List.take ((List.length x_6) - (Int.toNat ((@Nat.cast Int _ (List.length x_6)) / (2 : Int)))) (List.drop (Int.toNat ((@Nat.cast Int _ (List.length x_6)) / (2 : Int))) x_6))) = true) →
 ((true = true) ∧
 True)) ∧
 (((Go.Proofs.Ytpdddafaelbgkaa.patB x_5 (List.take ((List.length x_6) - (Int.toNat ((@Nat.cast Int _ (List.length x_6)) / (2 : Int)))) (List.drop (Int.toNat ((@Nat.cast Int _ (List.length x_6)) / (2 : Int))) x_6))) = false) →
 ((false = true) ∧
 True))))))))) ∧
 (((Bool.not (Go.Proofs.Ytpdddafaelbgkaa.patB x_5 (x_6 ++ [(Go.Proofs.Ytpdddafaelbgkaa.Patch.mk (Go.Proofs.Ytpdddafaelbgkaa.Img.base x_5) ([] : List Int))]))) = false) →
 ((false = true) ∧
 True))))))))))))))))))))))))) := by kernel_rfl
theorem det_laws_FnPatchesValid : C_laws_FnPatchesValid.det = true → ∀ x, (C_laws_FnPatchesValid.out x).Det := fun _ x => by simp only [C_laws_FnPatchesValid]; repeat (first | exact Det.ret _ | exact Det.vc' | apply Det.req | apply Det.giv | apply Det.fork | apply Det.bif' | intro _)
set_option maxRecDepth 200000 in
set_option maxHeartbeats 1000000 in
theorem ok_laws_FnPatchesValid : ConOK Try.prog 3 C_laws_FnPatchesValid := by
  refine con_mk (wr := false) (ty := tyL [(3, .i), (5, .u), (4, .bool), (9, .str), (163, .int .u64), (71, .st .fixup), (24, .st .img), (39, .st .region), (35, .st .mem), (30, .st .patch), (94, .st .hash), (92, .list .i), (90, .list .str), (22, .list .u), (67, .st .fixup), (52, .st .img), (149, .st .region), (55, .st .mem), (101, .st .hash)]) (l := [(24, C_spec_DrawPatchesValid), (25, C_impl_PatchesValid), (26, C_spec_PatchesValid), (27, C_laws_alive)]) ⟨⟨ok_spec_DrawPatchesValid, det_spec_DrawPatchesValid⟩, ⟨⟨ok_impl_PatchesValid, det_impl_PatchesValid⟩, ⟨⟨ok_spec_PatchesValid, det_spec_PatchesValid⟩, ⟨⟨ok_laws_alive, det_laws_alive⟩, trivial⟩⟩⟩⟩ Try.checked.mixed (fn := Try.f3) (body := Try.f3.body.getD .skip) Try.func3 rfl (by decide) (by kernel_rfl) rfl an_laws_FnPatchesValid fun x ho hx => ?_
  obtain ⟨c, ⟨⟩⟩ := x
  refine Keeps.of (vc_laws_FnPatchesValid c) ?_
  revert c ho hx
  show ∀ (c : List (Int)), _
  intro c ho hx
  dsimp only [C_laws_FnPatchesValid, okPTL, okPT, Ok, Ty.cells, SN.cells, OkL, OkC, okI, ci, cb, cs, cl] at ho
  dsimp only [C_laws_FnPatchesValid, vc, v1, decB, SR.pre] at hx
  have ht : ∀ (l : List Patch) (k : Nat), (l.drop k).take (l.length - k) = l.drop k := fun l k => List.take_of_length_le (by simp)
  simp only [decide_eq_true_eq, decide_eq_false_iff_not, Bool.not_eq_true', Bool.not_eq_false', and_true, true_and, and_assoc, Int.toNat_natCast, exists_eq_left', exists_eq_left, exists_and_left, Int.not_lt, Int.not_le, Bool.false_eq_true, false_implies, implies_true, forall_const, List.length_append, List.length_cons, List.length_nil, Int.sub_add_cancel, Int.add_sub_cancel, and_imp, ex_img, ex_mem, ex_fix, ex_pat, forall_eq', forall_eq]; (repeat' first | apply And.intro | (intro x hq _; replace hq := List.mem_of_getElem? hq; simp only [List.mem_cons, List.not_mem_nil, or_false] at hq) | intro _); all_goals (try omega)
  all_goals grind [patB_app, patB_drop, patBd_iff]

theorem rd_u : Reads Try.prog 5 [.u] := reads_u8 Try.underlying5
theorem rd_uL : Reads Try.prog 22 [(.list .u)] := reads_slice (t' := .u) Try.underlying22 (by kernel_rfl) (by decide) rd_u
set_option maxRecDepth 100000 in
theorem lifted_FnPatchesValid (os : Os) (started : os.Started) (H : Type) (enc : TypeId × Value → H) :
    ReturnsInHanded {} Try.checked os 3 .any (Rows.fnPatchesValidSpec.pre6 enc Try.prog Try.f3 Rows.fnPatchesValidRow.domain false) (Rows.fnPatchesValidSpec.post enc Try.prog Try.f3 false true false false) := by
  refine returnsInHanded_of_change (C := Try.checked) head_own started (by kernel_rfl) Try.func3
    (ChangeSpec.witness6 (enc := enc) (C := Try.checked) false ⟨#[], #[.slice none 0 0], []⟩ 8 (by kernel_rfl) (by kernel_rfl) (by kernel_rfl) (by kernel_rfl)) ?_
  intro W base args ds gs before hval0 hW _ _
  have hval : ∀ (j : Nat) t v, Try.f3.params[j]? = some t → args[j]? = some v → Value.okWide Try.prog W .any base t v := hval0
  have hW' := hW
  obtain ⟨p, q, hA0, hV, rfl, hfz, hnd⟩ := hW
  have hA : DataW.TrodAll enc Try.prog W 0 (fun _ => true) true Try.f3.params.toList args.toList ds p := hA0
  rw [Try.params3] at hA hval
  obtain ⟨v0, vs0, d0, ds0, p0, q0, hargs, rfl, rfl, h0, r0⟩ := trodAll_cons hA
  obtain ⟨rfl, rfl, rfl⟩ := trodAll_nil r0
  obtain rfl : args = #[v0] := by cases args; simp_all
  obtain ⟨rfl, rfl⟩ := trodVars_none hV
  have k0 := h0
  obtain ⟨x0, g0⟩ := open_slice1 Try.underlying22 rd_uL (hval 0 22 v0 rfl rfl) h0
  clear hA0 hval0 hval
  refine (law_calls ok_laws_FnPatchesValid (x0, ()) rfl rfl (W := W) (vals := [v0]) ⟨g0, trivial⟩).mono fun e W' ⟨he, bel⟩ => ?_
  subst he
  exact ⟨_, rfl, _, _, _, [], _, [], hW', trodAll_mk1 (shut_bool Try.underlying4 _), (trodAll_cons_mk (Below.trod head_laid (by kernel_rfl) (of_decide_eq_true (by kernel_rfl)) k0 bel (trod_lt_ k0)) trodAll_mk0), rfl, bel.frame _, fun h => by cases h⟩

theorem over_FnPatchesValid : Rows.fnPatchesValidRow.holds Try.pinned (OpenSpec.ofChange Rows.fnPatchesValidSpec) :=
  OpenClaim.holds_of_wide 3 Try.f3 rfl rfl rfl rfl rfl rfl rfl ⟨rfl, rfl, rfl, rfl, rfl⟩ rfl rfl rfl rfl rfl (by kernel_rfl) Try.func3 (joined_of head_laid head_rowed head_stops head_stopk head_heard head_enter (show (Rows.fnPatchesValidRow.lifted == Try.prog.liftsFinal) = true by rw [head_final]; rfl) (show (Try.prog.make == some Rows.fnPatchesValidRow.make) = true by rw [head_make]; rfl) (by kernel_rfl))
    (of_decide_eq_true (by kernel_rfl)) (by unfold Func.isWrapper; first | (rw [if_pos (by decide +kernel)]; kernel_rfl) | (rw [if_neg (by decide +kernel)]; exact ⟨rfl, rfl⟩))
    (fun os started H enc _ => lifted_FnPatchesValid os started H enc)

theorem proved_FnPatchesValid : Rows.FnPatchesValidSaid := over_FnPatchesValid
#print axioms proved_FnPatchesValid

end Go.Proofs.Ytpdddafaelbgkaa
