/- The exact laws on memories. -/
import Derived.Test.YtpdddafaelbgkaaMemD
import Derived.Test.YtpdddafaelbgkaaFamC
import Derived.Test.YtpdddafaelbgkaaHead
set_option linter.unusedVariables false
set_option linter.unusedSimpArgs false
namespace Go.Proofs.Ytpdddafaelbgkaa
open Go Go.RowKit Go.ChangeShapes Go.WideShapes Go.Deep


def C_laws_FnExactMemoryValid : Con := { ps := [.ro (.st .mem)], out := fun x => let m : Memo := x.1; vc .bool true, det := true }
def G_laws_FnExactMemoryValid : Cfg := mkG (tyL [(3, .i), (5, .u), (4, .bool), (9, .str), (163, .int .u64), (71, .st .fixup), (24, .st .img), (39, .st .region), (35, .st .mem), (30, .st .patch), (94, .st .hash), (92, .list .i), (90, .list .str), (22, .list .u), (67, .st .fixup), (52, .st .img), (149, .st .region), (55, .st .mem), (101, .st .hash)]) [(41, C_laws_szMemory), (42, C_laws_toMemory), (30, C_spec_MemoryValid), (29, C_impl_MemoryValid), (43, C_laws_eqMemory)] false
def an_laws_FnExactMemoryValid : PTL C_laws_FnExactMemoryValid.ps → Nat → Option Ann := fun _ _ => none
set_option maxRecDepth 200000 in
theorem vc_laws_FnExactMemoryValid (m : Memo) : (keeps Try.prog G_laws_FnExactMemoryValid (an_laws_FnExactMemoryValid (m, ())) (Try.f7.body.getD .skip) Try.f7.results.toList C_laws_FnExactMemoryValid (m, ())) = (((((0 : Int) ≤ (1048576 : Int)) ∧
 ((1048576 : Int) ≤ (1048576 : Int))) ∧
 ((((decide ((Go.Proofs.Ytpdddafaelbgkaa.szR (Go.Proofs.Ytpdddafaelbgkaa.szMe m) (1048576 : Int)) < (0 : Int))) = true) →
 ((true = true) ∧
 True)) ∧
 (((decide ((Go.Proofs.Ytpdddafaelbgkaa.szR (Go.Proofs.Ytpdddafaelbgkaa.szMe m) (1048576 : Int)) < (0 : Int))) = false) →
 (((Go.Proofs.Ytpdddafaelbgkaa.szMe m) ≤ (1048576 : Int)) ∧
 (((Go.Proofs.Ytpdddafaelbgkaa.szMe m) ≤ (1048576 : Int)) ∧
 ((((decide ((Go.Proofs.Ytpdddafaelbgkaa.memB m) ≠ (Go.Proofs.Ytpdddafaelbgkaa.memB m))) = true) →
 ((false = true) ∧
 True)) ∧
 (((decide ((Go.Proofs.Ytpdddafaelbgkaa.memB m) ≠ (Go.Proofs.Ytpdddafaelbgkaa.memB m))) = false) →
 (((Go.Proofs.Ytpdddafaelbgkaa.szMe m) ≤ (1048576 : Int)) ∧
 ((((Bool.not (decide (@Eq Go.Proofs.Ytpdddafaelbgkaa.Memo m m))) = true) →
 ((false = true) ∧
 True)) ∧
 (((Bool.not (decide (@Eq Go.Proofs.Ytpdddafaelbgkaa.Memo m m))) = false) →
 ((true = true) ∧
 True)))))))))))) := by kernel_rfl
theorem det_laws_FnExactMemoryValid : C_laws_FnExactMemoryValid.det = true → ∀ x, (C_laws_FnExactMemoryValid.out x).Det := fun _ x => by simp only [C_laws_FnExactMemoryValid]; repeat (first | exact Det.ret _ | exact Det.vc' | apply Det.req | apply Det.giv | apply Det.fork | apply Det.bif' | intro _)
set_option maxRecDepth 200000 in
set_option maxHeartbeats 1000000 in
theorem ok_laws_FnExactMemoryValid : ConOK Try.prog 7 C_laws_FnExactMemoryValid := by
  refine con_mk (wr := false) (ty := tyL [(3, .i), (5, .u), (4, .bool), (9, .str), (163, .int .u64), (71, .st .fixup), (24, .st .img), (39, .st .region), (35, .st .mem), (30, .st .patch), (94, .st .hash), (92, .list .i), (90, .list .str), (22, .list .u), (67, .st .fixup), (52, .st .img), (149, .st .region), (55, .st .mem), (101, .st .hash)]) (l := [(41, C_laws_szMemory), (42, C_laws_toMemory), (30, C_spec_MemoryValid), (29, C_impl_MemoryValid), (43, C_laws_eqMemory)]) ⟨⟨ok_laws_szMemory, det_laws_szMemory⟩, ⟨⟨ok_laws_toMemory, det_laws_toMemory⟩, ⟨⟨ok_spec_MemoryValid, det_spec_MemoryValid⟩, ⟨⟨ok_impl_MemoryValid, det_impl_MemoryValid⟩, ⟨⟨ok_laws_eqMemory, det_laws_eqMemory⟩, trivial⟩⟩⟩⟩⟩ Try.checked.mixed (fn := Try.f7) (body := Try.f7.body.getD .skip) Try.func7 rfl (by decide) (by kernel_rfl) rfl an_laws_FnExactMemoryValid fun x ho hx => ?_
  obtain ⟨m, ⟨⟩⟩ := x
  refine Keeps.of (vc_laws_FnExactMemoryValid m) ?_
  revert m ho hx
  show ∀ (m : Memo), _
  intro m ho hx
  dsimp only [C_laws_FnExactMemoryValid, okPTL, okPT, Ok, Ty.cells, SN.cells, OkL, OkC, okI, ci, cb, cs, cl] at ho
  dsimp only [C_laws_FnExactMemoryValid, vc, v1, decB, SR.pre] at hx
  simp only [decide_eq_true_eq, decide_eq_false_iff_not, Bool.not_eq_true', Bool.not_eq_false', and_true, true_and, Int.toNat_natCast, exists_eq_left', exists_eq_left, exists_and_left, Int.not_lt, Int.not_le, Bool.false_eq_true, false_implies, implies_true, forall_const, List.length_append, List.length_cons, List.length_nil, Int.sub_add_cancel, Int.add_sub_cancel, and_imp, get_set_iff, forall_eq', forall_eq, List.set_set, mkd_get, mkd_len, List.length_set, Option.some.injEq]; (repeat' first | intro _ | apply And.intro); all_goals (try omega); all_goals grind [szR, szMe]

theorem rd_i : Reads Try.prog 3 [.i] := reads_int Try.underlying3
theorem rd_u : Reads Try.prog 5 [.u] := reads_u8 Try.underlying5
theorem rd_uL : Reads Try.prog 22 [(.list .u)] := reads_slice (t' := .u) Try.underlying22 (by kernel_rfl) (by decide) rd_u
theorem rd_img : Reads Try.prog 52 (SN.sig .img) := reads_fs (sig := SN.sig .img) Try.underlying52 (by kernel_rfl) (fs_cons (sig := [.i]) rfl (by kernel_rfl) rd_i (fs_cons (sig := [(.list .u)]) rfl (by kernel_rfl) rd_uL fs_nil))
theorem rd_b : Reads Try.prog 4 [.bool] := reads_bool Try.underlying4
theorem rd_region : Reads Try.prog 149 (SN.sig .region) := reads_fs (sig := SN.sig .region) Try.underlying149 (by kernel_rfl) (fs_cons (sig := [.i]) rfl (by kernel_rfl) rd_i (fs_cons (sig := [.i]) rfl (by kernel_rfl) rd_i (fs_cons (sig := [.bool]) rfl (by kernel_rfl) rd_b (fs_cons (sig := [.bool]) rfl (by kernel_rfl) rd_b fs_nil))))
theorem rd_regionL : Reads Try.prog 53 [(.list (.st .region))] := reads_slice (t' := (.st .region)) Try.underlying53 (by kernel_rfl) (by decide) rd_region
theorem rd_mem : Reads Try.prog 55 (SN.sig .mem) := reads_fs (sig := SN.sig .mem) Try.underlying55 (by kernel_rfl) (fs_cons (sig := [.i, (.list .u)]) rfl (by kernel_rfl) rd_img (fs_cons (sig := [(.list (.st .region))]) rfl (by kernel_rfl) rd_regionL fs_nil))
set_option maxRecDepth 100000 in
theorem lifted_FnExactMemoryValid (os : Os) (started : os.Started) (H : Type) (enc : TypeId × Value → H) :
    ReturnsInHanded {} Try.checked os 7 .any (Rows.fnExactMemoryValidSpec.pre6 enc Try.prog Try.f7 Rows.fnExactMemoryValidRow.domain false) (Rows.fnExactMemoryValidSpec.post enc Try.prog Try.f7 false true false false) := by
  refine returnsInHanded_of_change (C := Try.checked) head_own started (by kernel_rfl) Try.func7
    (ChangeSpec.witness6 (enc := enc) (C := Try.checked) false ⟨#[], #[.agg #[.int .i64 0, .slice none 0 0, .slice none 0 0]], []⟩ 8 (by kernel_rfl) (by kernel_rfl) (by kernel_rfl) (by kernel_rfl)) ?_
  intro W base args ds gs before hval0 hW _ _
  have hval : ∀ (j : Nat) t v, Try.f7.params[j]? = some t → args[j]? = some v → Value.okWide Try.prog W .any base t v := hval0
  have hW' := hW
  obtain ⟨p, q, hA0, hV, rfl, hfz, hnd⟩ := hW
  have hA : DataW.TrodAll enc Try.prog W 0 (fun _ => true) true Try.f7.params.toList args.toList ds p := hA0
  rw [Try.params7] at hA hval
  obtain ⟨v0, vs0, d0, ds0, p0, q0, hargs, rfl, rfl, h0, r0⟩ := trodAll_cons hA
  obtain ⟨rfl, rfl, rfl⟩ := trodAll_nil r0
  obtain rfl : args = #[v0] := by cases args; simp_all
  obtain ⟨rfl, rfl⟩ := trodVars_none hV
  have k0 := h0
  obtain ⟨x0, g0⟩ := open_agg Try.underlying55 rd_mem (hval 0 55 v0 rfl rfl) h0
  clear hA0 hval0 hval
  refine (law_calls ok_laws_FnExactMemoryValid (x0, ()) rfl rfl (W := W) (vals := [v0]) ⟨g0, trivial⟩).mono fun e W' ⟨he, bel⟩ => ?_
  subst he
  exact ⟨_, rfl, _, _, _, [], _, [], hW', trodAll_mk1 (shut_bool Try.underlying4 _), (trodAll_cons_mk (Below.trod head_laid (by kernel_rfl) (of_decide_eq_true (by kernel_rfl)) k0 bel (trod_lt_ k0)) trodAll_mk0), rfl, bel.frame _, fun h => by cases h⟩

theorem over_FnExactMemoryValid : Rows.fnExactMemoryValidRow.holds Try.pinned (OpenSpec.ofChange Rows.fnExactMemoryValidSpec) :=
  OpenClaim.holds_of_wide 7 Try.f7 rfl rfl rfl rfl rfl rfl rfl ⟨rfl, rfl, rfl, rfl, rfl⟩ rfl rfl rfl rfl rfl (by kernel_rfl) Try.func7 (joined_of head_laid head_rowed head_stops head_stopk head_heard head_enter (show (Rows.fnExactMemoryValidRow.lifted == Try.prog.liftsFinal) = true by rw [head_final]; rfl) (show (Try.prog.make == some Rows.fnExactMemoryValidRow.make) = true by rw [head_make]; rfl) (by kernel_rfl))
    (of_decide_eq_true (by kernel_rfl)) (by unfold Func.isWrapper; first | (rw [if_pos (by decide +kernel)]; kernel_rfl) | (rw [if_neg (by decide +kernel)]; exact ⟨rfl, rfl⟩))
    (fun os started H enc _ => lifted_FnExactMemoryValid os started H enc)

theorem proved_FnExactMemoryValid : Rows.FnExactMemoryValidSaid := over_FnExactMemoryValid
#print axioms proved_FnExactMemoryValid

def C_laws_FnExactMemoryRead : Con := { ps := [.ro (.st .mem), .ro .i], out := fun x => let m : Memo := x.1; let a : Int := x.2.1; vc .bool true, det := true }
def G_laws_FnExactMemoryRead : Cfg := mkG (tyL [(3, .i), (5, .u), (4, .bool), (9, .str), (163, .int .u64), (71, .st .fixup), (24, .st .img), (39, .st .region), (35, .st .mem), (30, .st .patch), (94, .st .hash), (92, .list .i), (90, .list .str), (22, .list .u), (67, .st .fixup), (52, .st .img), (149, .st .region), (55, .st .mem), (101, .st .hash)]) [(41, C_laws_szMemory), (42, C_laws_toMemory), (60, C_spec_MemoryRead), (59, C_impl_MemoryRead), (43, C_laws_eqMemory)] false
def an_laws_FnExactMemoryRead : PTL C_laws_FnExactMemoryRead.ps → Nat → Option Ann := fun _ _ => none
set_option maxRecDepth 200000 in
theorem vc_laws_FnExactMemoryRead (m : Memo) (a : Int) : (keeps Try.prog G_laws_FnExactMemoryRead (an_laws_FnExactMemoryRead (m, a, ())) (Try.f14.body.getD .skip) Try.f14.results.toList C_laws_FnExactMemoryRead (m, a, ())) = (((((0 : Int) ≤ (1048576 : Int)) ∧
 ((1048576 : Int) ≤ (1048576 : Int))) ∧
 ((((decide ((Go.Proofs.Ytpdddafaelbgkaa.szR (Go.Proofs.Ytpdddafaelbgkaa.szMe m) (1048576 : Int)) < (0 : Int))) = true) →
 ((true = true) ∧
 True)) ∧
 (((decide ((Go.Proofs.Ytpdddafaelbgkaa.szR (Go.Proofs.Ytpdddafaelbgkaa.szMe m) (1048576 : Int)) < (0 : Int))) = false) →
 (((Go.Proofs.Ytpdddafaelbgkaa.szMe m) ≤ (1048576 : Int)) ∧
 (((Go.Proofs.Ytpdddafaelbgkaa.szMe m) ≤ (1048576 : Int)) ∧
 ((((decide ((Go.Proofs.Ytpdddafaelbgkaa.memRead m a) ≠ (Go.Proofs.Ytpdddafaelbgkaa.memRead m a))) = true) →
 ((false = true) ∧
 True)) ∧
 (((decide ((Go.Proofs.Ytpdddafaelbgkaa.memRead m a) ≠ (Go.Proofs.Ytpdddafaelbgkaa.memRead m a))) = false) →
 (((Go.Proofs.Ytpdddafaelbgkaa.szMe m) ≤ (1048576 : Int)) ∧
 ((((Bool.not (decide (@Eq Go.Proofs.Ytpdddafaelbgkaa.Memo m m))) = true) →
 ((false = true) ∧
 True)) ∧
 (((Bool.not (decide (@Eq Go.Proofs.Ytpdddafaelbgkaa.Memo m m))) = false) →
 ((true = true) ∧
 True)))))))))))) := by kernel_rfl
theorem det_laws_FnExactMemoryRead : C_laws_FnExactMemoryRead.det = true → ∀ x, (C_laws_FnExactMemoryRead.out x).Det := fun _ x => by simp only [C_laws_FnExactMemoryRead]; repeat (first | exact Det.ret _ | exact Det.vc' | apply Det.req | apply Det.giv | apply Det.fork | apply Det.bif' | intro _)
set_option maxRecDepth 200000 in
set_option maxHeartbeats 1000000 in
theorem ok_laws_FnExactMemoryRead : ConOK Try.prog 14 C_laws_FnExactMemoryRead := by
  refine con_mk (wr := false) (ty := tyL [(3, .i), (5, .u), (4, .bool), (9, .str), (163, .int .u64), (71, .st .fixup), (24, .st .img), (39, .st .region), (35, .st .mem), (30, .st .patch), (94, .st .hash), (92, .list .i), (90, .list .str), (22, .list .u), (67, .st .fixup), (52, .st .img), (149, .st .region), (55, .st .mem), (101, .st .hash)]) (l := [(41, C_laws_szMemory), (42, C_laws_toMemory), (60, C_spec_MemoryRead), (59, C_impl_MemoryRead), (43, C_laws_eqMemory)]) ⟨⟨ok_laws_szMemory, det_laws_szMemory⟩, ⟨⟨ok_laws_toMemory, det_laws_toMemory⟩, ⟨⟨ok_spec_MemoryRead, det_spec_MemoryRead⟩, ⟨⟨ok_impl_MemoryRead, det_impl_MemoryRead⟩, ⟨⟨ok_laws_eqMemory, det_laws_eqMemory⟩, trivial⟩⟩⟩⟩⟩ Try.checked.mixed (fn := Try.f14) (body := Try.f14.body.getD .skip) Try.func14 rfl (by decide) (by kernel_rfl) rfl an_laws_FnExactMemoryRead fun x ho hx => ?_
  obtain ⟨m, a, ⟨⟩⟩ := x
  refine Keeps.of (vc_laws_FnExactMemoryRead m a) ?_
  revert m a ho hx
  show ∀ (m : Memo) (a : Int), _
  intro m a ho hx
  dsimp only [C_laws_FnExactMemoryRead, okPTL, okPT, Ok, Ty.cells, SN.cells, OkL, OkC, okI, ci, cb, cs, cl] at ho
  dsimp only [C_laws_FnExactMemoryRead, vc, v1, decB, SR.pre] at hx
  simp only [decide_eq_true_eq, decide_eq_false_iff_not, Bool.not_eq_true', Bool.not_eq_false', and_true, true_and, Int.toNat_natCast, exists_eq_left', exists_eq_left, exists_and_left, Int.not_lt, Int.not_le, Bool.false_eq_true, false_implies, implies_true, forall_const, List.length_append, List.length_cons, List.length_nil, Int.sub_add_cancel, Int.add_sub_cancel, and_imp, get_set_iff, forall_eq', forall_eq, List.set_set, mkd_get, mkd_len, List.length_set, Option.some.injEq]; (repeat' first | intro _ | apply And.intro); all_goals (try omega); all_goals grind [szR, szMe]

set_option maxRecDepth 100000 in
theorem lifted_FnExactMemoryRead (os : Os) (started : os.Started) (H : Type) (enc : TypeId × Value → H) :
    ReturnsInHanded {} Try.checked os 14 .any (Rows.fnExactMemoryReadSpec.pre6 enc Try.prog Try.f14 Rows.fnExactMemoryReadRow.domain false) (Rows.fnExactMemoryReadSpec.post enc Try.prog Try.f14 false true false false) := by
  refine returnsInHanded_of_change (C := Try.checked) head_own started (by kernel_rfl) Try.func14
    (ChangeSpec.witness6 (enc := enc) (C := Try.checked) false ⟨#[], #[.agg #[.int .i64 0, .slice none 0 0, .slice none 0 0], .int .i64 0], []⟩ 8 (by kernel_rfl) (by kernel_rfl) (by kernel_rfl) (by kernel_rfl)) ?_
  intro W base args ds gs before hval0 hW _ _
  have hval : ∀ (j : Nat) t v, Try.f14.params[j]? = some t → args[j]? = some v → Value.okWide Try.prog W .any base t v := hval0
  have hW' := hW
  obtain ⟨p, q, hA0, hV, rfl, hfz, hnd⟩ := hW
  have hA : DataW.TrodAll enc Try.prog W 0 (fun _ => true) true Try.f14.params.toList args.toList ds p := hA0
  rw [Try.params14] at hA hval
  obtain ⟨v0, vs0, d0, ds0, p0, q0, hargs, rfl, rfl, h0, r0⟩ := trodAll_cons hA
  obtain ⟨v1, vs1, d1, ds1, p1, q1, rfl, rfl, rfl, h1, r1⟩ := trodAll_cons r0
  obtain ⟨rfl, rfl, rfl⟩ := trodAll_nil r1
  obtain rfl : args = #[v0, v1] := by cases args; simp_all
  obtain ⟨rfl, rfl⟩ := trodVars_none hV
  have k0 := h0
  obtain ⟨x0, g0⟩ := open_agg Try.underlying55 rd_mem (hval 0 55 v0 rfl rfl) h0
  have k1 := h1
  obtain ⟨n1, hn1, _, _, _⟩ := open_int Try.underlying3 (hval 1 3 v1 rfl rfl) h1
  obtain ⟨x1, g1⟩ := open_one (by rw [hn1]; rfl) rd_i h1
  clear hA0 hval0 hval
  refine (law_calls ok_laws_FnExactMemoryRead (x0, x1, ()) rfl rfl (W := W) (vals := [v0, v1]) ⟨g0, g1, trivial⟩).mono fun e W' ⟨he, bel⟩ => ?_
  subst he
  exact ⟨_, rfl, _, _, _, [], _, [], hW', trodAll_mk1 (shut_bool Try.underlying4 _), (trodAll_cons_mk (Below.trod head_laid (by kernel_rfl) (of_decide_eq_true (by kernel_rfl)) k0 bel (trod_lt_ k0)) (trodAll_cons_mk (Below.trod head_laid (by kernel_rfl) (of_decide_eq_true (by kernel_rfl)) k1 bel (trod_lt_ k1)) trodAll_mk0)), rfl, bel.frame _, fun h => by cases h⟩

theorem over_FnExactMemoryRead : Rows.fnExactMemoryReadRow.holds Try.pinned (OpenSpec.ofChange Rows.fnExactMemoryReadSpec) :=
  OpenClaim.holds_of_wide 14 Try.f14 rfl rfl rfl rfl rfl rfl rfl ⟨rfl, rfl, rfl, rfl, rfl⟩ rfl rfl rfl rfl rfl (by kernel_rfl) Try.func14 (joined_of head_laid head_rowed head_stops head_stopk head_heard head_enter (show (Rows.fnExactMemoryReadRow.lifted == Try.prog.liftsFinal) = true by rw [head_final]; rfl) (show (Try.prog.make == some Rows.fnExactMemoryReadRow.make) = true by rw [head_make]; rfl) (by kernel_rfl))
    (of_decide_eq_true (by kernel_rfl)) (by unfold Func.isWrapper; first | (rw [if_pos (by decide +kernel)]; kernel_rfl) | (rw [if_neg (by decide +kernel)]; exact ⟨rfl, rfl⟩))
    (fun os started H enc _ => lifted_FnExactMemoryRead os started H enc)

theorem proved_FnExactMemoryRead : Rows.FnExactMemoryReadSaid := over_FnExactMemoryRead
#print axioms proved_FnExactMemoryRead

theorem write_len (m : Memo) (a v : Int) : (memWrite m a v).what.bytes.length ≤ m.what.bytes.length ∧ (memWrite m a v).regions.length ≤ m.regions.length := by
  cases h : mayW m a v with
  | true =>
    obtain ⟨h1, h2, h3, h4⟩ := write_parts h
    rw [h3, h4]
    exact ⟨Nat.le_refl _, Nat.le_refl _⟩
  | false =>
    cases h' : memB m with
    | true => rw [write_no h' h]; exact ⟨Nat.le_refl _, Nat.le_refl _⟩
    | false => rw [(write_bad h').1]; exact ⟨Nat.zero_le _, Nat.zero_le _⟩
def C_laws_FnExactMemoryWrite : Con := { ps := [.ro (.st .mem), .ro .i, .ro .i], out := fun x => let m : Memo := x.1; let a : Int := x.2.1; let v : Int := x.2.2.1; vc .bool true, det := true }
def G_laws_FnExactMemoryWrite : Cfg := mkG (tyL [(3, .i), (5, .u), (4, .bool), (9, .str), (163, .int .u64), (71, .st .fixup), (24, .st .img), (39, .st .region), (35, .st .mem), (30, .st .patch), (94, .st .hash), (92, .list .i), (90, .list .str), (22, .list .u), (67, .st .fixup), (52, .st .img), (149, .st .region), (55, .st .mem), (101, .st .hash)]) [(41, C_laws_szMemory), (42, C_laws_toMemory), (71, C_spec_MemoryWrite), (70, C_impl_MemoryWrite), (43, C_laws_eqMemory), (73, C_laws_markMemory), (74, C_laws_heldMemory)] false
def an_laws_FnExactMemoryWrite : PTL C_laws_FnExactMemoryWrite.ps → Nat → Option Ann := fun _ _ => none
set_option maxRecDepth 200000 in
theorem vc_laws_FnExactMemoryWrite (m : Memo) (a : Int) (v : Int) : (keeps Try.prog G_laws_FnExactMemoryWrite (an_laws_FnExactMemoryWrite (m, a, v, ())) (Try.f17.body.getD .skip) Try.f17.results.toList C_laws_FnExactMemoryWrite (m, a, v, ())) = (((((0 : Int) ≤ (1048576 : Int)) ∧
 ((1048576 : Int) ≤ (1048576 : Int))) ∧
 ((((decide ((Go.Proofs.Ytpdddafaelbgkaa.szR (Go.Proofs.Ytpdddafaelbgkaa.szMe m) (1048576 : Int)) < (0 : Int))) = true) →
 ((true = true) ∧
 True)) ∧
 (((decide ((Go.Proofs.Ytpdddafaelbgkaa.szR (Go.Proofs.Ytpdddafaelbgkaa.szMe m) (1048576 : Int)) < (0 : Int))) = false) →
 (((Go.Proofs.Ytpdddafaelbgkaa.szMe m) ≤ (1048576 : Int)) ∧
 ((((List.length (Go.Proofs.Ytpdddafaelbgkaa.Img.bytes (Go.Proofs.Ytpdddafaelbgkaa.Memo.what m))) ≤ (1048576 : Nat)) ∧
 ((List.length (Go.Proofs.Ytpdddafaelbgkaa.Memo.regions m)) ≤ (1048576 : Nat))) ∧
 (((Go.Proofs.Ytpdddafaelbgkaa.szMe m) ≤ (1048576 : Int)) ∧
 ((((List.length (Go.Proofs.Ytpdddafaelbgkaa.Img.bytes (Go.Proofs.Ytpdddafaelbgkaa.Memo.what m))) ≤ (1048576 : Nat)) ∧
 ((List.length (Go.Proofs.Ytpdddafaelbgkaa.Memo.regions m)) ≤ (1048576 : Nat))) ∧
 ((((Bool.not (decide (@Eq Go.Proofs.Ytpdddafaelbgkaa.Memo (Go.Proofs.Ytpdddafaelbgkaa.memWrite m a v) (Go.Proofs.Ytpdddafaelbgkaa.memWrite m a v)))) = true) →
 ((false = true) ∧
 True)) ∧
 (((Bool.not (decide (@Eq Go.Proofs.Ytpdddafaelbgkaa.Memo (Go.Proofs.Ytpdddafaelbgkaa.memWrite m a v) (Go.Proofs.Ytpdddafaelbgkaa.memWrite m a v)))) = false) →
 ((((decide ((Go.Proofs.Ytpdddafaelbgkaa.mayW m a v) ≠ (Go.Proofs.Ytpdddafaelbgkaa.mayW m a v))) = true) →
 ((false = true) ∧
 True)) ∧
 (((decide ((Go.Proofs.Ytpdddafaelbgkaa.mayW m a v) ≠ (Go.Proofs.Ytpdddafaelbgkaa.mayW m a v))) = false) →
 (((Go.Proofs.Ytpdddafaelbgkaa.szMe m) ≤ (1048576 : Int)) ∧
 ((((Bool.not (decide (@Eq Go.Proofs.Ytpdddafaelbgkaa.Memo m m))) = true) →
 ((false = true) ∧
 True)) ∧
 (((Bool.not (decide (@Eq Go.Proofs.Ytpdddafaelbgkaa.Memo m m))) = false) →
 ((((0 : Int) ≤ (1 : Int)) ∧
 (((1 : Int) + (Go.Proofs.Ytpdddafaelbgkaa.cMe m)) ≤ (1000000000000 : Int))) ∧
 ((((decide (((1 : Int) + (Go.Proofs.Ytpdddafaelbgkaa.cMe m)) < (0 : Int))) = true) →
 ((false = true) ∧
 True)) ∧
 (((decide (((1 : Int) + (Go.Proofs.Ytpdddafaelbgkaa.cMe m)) < (0 : Int))) = false) →
 ((((Bool.not (decide (@Eq Go.Proofs.Ytpdddafaelbgkaa.Memo (Go.Proofs.Ytpdddafaelbgkaa.memWrite m a v) (Go.Proofs.Ytpdddafaelbgkaa.memWrite m a v)))) = true) →
 ((false = true) ∧
 True)) ∧
 (((Bool.not (decide (@Eq Go.Proofs.Ytpdddafaelbgkaa.Memo (Go.Proofs.Ytpdddafaelbgkaa.memWrite m a v) (Go.Proofs.Ytpdddafaelbgkaa.memWrite m a v)))) = false) →
 ((((decide ((Go.Proofs.Ytpdddafaelbgkaa.mayW m a v) ≠ (Go.Proofs.Ytpdddafaelbgkaa.mayW m a v))) = true) →
 ((false = true) ∧
 True)) ∧
 (((decide ((Go.Proofs.Ytpdddafaelbgkaa.mayW m a v) ≠ (Go.Proofs.Ytpdddafaelbgkaa.mayW m a v))) = false) →
 ((((0 : Int) ≤ (1 : Int)) ∧
 (((1 : Int) + (Go.Proofs.Ytpdddafaelbgkaa.cMe (Go.Proofs.Ytpdddafaelbgkaa.memWrite m a v))) ≤ (1000000000000 : Int))) ∧
 ((((0 : Int) ≤ (1 : Int)) ∧
 (((1 : Int) + (Go.Proofs.Ytpdddafaelbgkaa.cMe (Go.Proofs.Ytpdddafaelbgkaa.Memo.mk (Go.Proofs.Ytpdddafaelbgkaa.Img.mk (Go.Proofs.Ytpdddafaelbgkaa.Img.base (Go.Proofs.Ytpdddafaelbgkaa.Memo.what (Go.Proofs.Ytpdddafaelbgkaa.memWrite m a v))) (@Go.Proofs.Ytpdddafaelbgkaa.mkL Int Go.Proofs.Ytpdddafaelbgkaa.mkU (@Go.Proofs.Ytpdddafaelbgkaa.cOne Int) (Go.Proofs.Ytpdddafaelbgkaa.Img.bytes (Go.Proofs.Ytpdddafaelbgkaa.Memo.what (Go.Proofs.Ytpdddafaelbgkaa.memWrite m a v))) (1 : Int))) (@Go.Proofs.Ytpdddafaelbgkaa.mkL Go.Proofs.Ytpdddafaelbgkaa.Region Go.Proofs.Ytpdddafaelbgkaa.mkRg (@Go.Proofs.Ytpdddafaelbgkaa.c4 Go.Proofs.Ytpdddafaelbgkaa.Region) (Go.Proofs.Ytpdddafaelbgkaa.Memo.regions (Go.Proofs.Ytpdddafaelbgkaa.memWrite m a v)) ((1 : Int) + (@Go.Proofs.Ytpdddafaelbgkaa.sumI Int (@Go.Proofs.Ytpdddafaelbgkaa.cOne Int) (Go.Proofs.Ytpdddafaelbgkaa.Img.bytes (Go.Proofs.Ytpdddafaelbgkaa.Memo.what (Go.Proofs.Ytpdddafaelbgkaa.memWrite m a v))))))))) ≤ (1000000000000 : Int))) ∧
 ((((decide ((Go.Proofs.Ytpdddafaelbgkaa.hMe (Go.Proofs.Ytpdddafaelbgkaa.Memo.mk (Go.Proofs.Ytpdddafaelbgkaa.Img.mk (Go.Proofs.Ytpdddafaelbgkaa.Img.base (Go.Proofs.Ytpdddafaelbgkaa.Memo.what (Go.Proofs.Ytpdddafaelbgkaa.memWrite m a v))) (@Go.Proofs.Ytpdddafaelbgkaa.mkL Int Go.Proofs.Ytpdddafaelbgkaa.mkU (@Go.Proofs.Ytpdddafaelbgkaa.cOne Int) (Go.Proofs.Ytpdddafaelbgkaa.Img.bytes (Go.Proofs.Ytpdddafaelbgkaa.Memo.what (Go.Proofs.Ytpdddafaelbgkaa.memWrite m a v))) (1 : Int))) (@Go.Proofs.Ytpdddafaelbgkaa.mkL Go.Proofs.Ytpdddafaelbgkaa.Region Go.Proofs.Ytpdddafaelbgkaa.mkRg (@Go.Proofs.Ytpdddafaelbgkaa.c4 Go.Proofs.Ytpdddafaelbgkaa.Region) (Go.Proofs.Ytpdddafaelbgkaa.Memo.regions (Go.Proofs.Ytpdddafaelbgkaa.memWrite m a v)) ((1 : Int) + (@Go.Proofs.Ytpdddafaelbgkaa.sumI Int (@Go.Proofs.Ytpdddafaelbgkaa.cOne Int) (Go.Proofs.Ytpdddafaelbgkaa.Img.bytes (Go.Proofs.Ytpdddafaelbgkaa.Memo.what (Go.Proofs.Ytpdddafaelbgkaa.memWrite m a v))))))) (1 : Int)) < (0 : Int))) = true) →
 ((false = true) ∧
 True)) ∧
 (((decide ((Go.Proofs.Ytpdddafaelbgkaa.hMe (Go.Proofs.Ytpdddafaelbgkaa.Memo.mk (Go.Proofs.Ytpdddafaelbgkaa.Img.mk (Go.Proofs.Ytpdddafaelbgkaa.Img.base (Go.Proofs.Ytpdddafaelbgkaa.Memo.what (Go.Proofs.Ytpdddafaelbgkaa.memWrite m a v))) (@Go.Proofs.Ytpdddafaelbgkaa.mkL Int Go.Proofs.Ytpdddafaelbgkaa.mkU (@Go.Proofs.Ytpdddafaelbgkaa.cOne Int) (Go.Proofs.Ytpdddafaelbgkaa.Img.bytes (Go.Proofs.Ytpdddafaelbgkaa.Memo.what (Go.Proofs.Ytpdddafaelbgkaa.memWrite m a v))) (1 : Int))) (@Go.Proofs.Ytpdddafaelbgkaa.mkL Go.Proofs.Ytpdddafaelbgkaa.Region Go.Proofs.Ytpdddafaelbgkaa.mkRg (@Go.Proofs.Ytpdddafaelbgkaa.c4 Go.Proofs.Ytpdddafaelbgkaa.Region) (Go.Proofs.Ytpdddafaelbgkaa.Memo.regions (Go.Proofs.Ytpdddafaelbgkaa.memWrite m a v)) ((1 : Int) + (@Go.Proofs.Ytpdddafaelbgkaa.sumI Int (@Go.Proofs.Ytpdddafaelbgkaa.cOne Int) (Go.Proofs.Ytpdddafaelbgkaa.Img.bytes (Go.Proofs.Ytpdddafaelbgkaa.Memo.what (Go.Proofs.Ytpdddafaelbgkaa.memWrite m a v))))))) (1 : Int)) < (0 : Int))) = false) →
 ((((decide ((Go.Proofs.Ytpdddafaelbgkaa.hMe (Go.Proofs.Ytpdddafaelbgkaa.Memo.mk (Go.Proofs.Ytpdddafaelbgkaa.Img.mk (Go.Proofs.Ytpdddafaelbgkaa.Img.base (Go.Proofs.Ytpdddafaelbgkaa.Memo.what (Go.Proofs.Ytpdddafaelbgkaa.memWrite m a v))) (@Go.Proofs.Ytpdddafaelbgkaa.mkL Int Go.Proofs.Ytpdddafaelbgkaa.mkU (@Go.Proofs.Ytpdddafaelbgkaa.cOne Int) (Go.Proofs.Ytpdddafaelbgkaa.Img.bytes (Go.Proofs.Ytpdddafaelbgkaa.Memo.what (Go.Proofs.Ytpdddafaelbgkaa.memWrite m a v))) (1 : Int))) (@Go.Proofs.Ytpdddafaelbgkaa.mkL Go.Proofs.Ytpdddafaelbgkaa.Region Go.Proofs.Ytpdddafaelbgkaa.mkRg (@Go.Proofs.Ytpdddafaelbgkaa.c4 Go.Proofs.Ytpdddafaelbgkaa.Region) (Go.Proofs.Ytpdddafaelbgkaa.Memo.regions (Go.Proofs.Ytpdddafaelbgkaa.memWrite m a v)) ((1 : Int) + (@Go.Proofs.Ytpdddafaelbgkaa.sumI Int (@Go.Proofs.Ytpdddafaelbgkaa.cOne Int) (Go.Proofs.Ytpdddafaelbgkaa.Img.bytes (Go.Proofs.Ytpdddafaelbgkaa.Memo.what (Go.Proofs.Ytpdddafaelbgkaa.memWrite m a v))))))) (1 : Int)) ≠ ((1 : Int) + (Go.Proofs.Ytpdddafaelbgkaa.cMe (Go.Proofs.Ytpdddafaelbgkaa.memWrite m a v))))) = true) →
 ((false = true) ∧
 True)) ∧
 (((decide ((Go.Proofs.Ytpdddafaelbgkaa.hMe (Go.Proofs.Ytpdddafaelbgkaa.Memo.mk (Go.Proofs.Ytpdddafaelbgkaa.Img.mk (Go.Proofs.Ytpdddafaelbgkaa.Img.base (Go.Proofs.Ytpdddafaelbgkaa.Memo.what (Go.Proofs.Ytpdddafaelbgkaa.memWrite m a v))) (@Go.Proofs.Ytpdddafaelbgkaa.mkL Int Go.Proofs.Ytpdddafaelbgkaa.mkU (@Go.Proofs.Ytpdddafaelbgkaa.cOne Int) (Go.Proofs.Ytpdddafaelbgkaa.Img.bytes (Go.Proofs.Ytpdddafaelbgkaa.Memo.what (Go.Proofs.Ytpdddafaelbgkaa.memWrite m a v))) (1 : Int))) (@Go.Proofs.Ytpdddafaelbgkaa.mkL Go.Proofs.Ytpdddafaelbgkaa.Region Go.Proofs.Ytpdddafaelbgkaa.mkRg (@Go.Proofs.Ytpdddafaelbgkaa.c4 Go.Proofs.Ytpdddafaelbgkaa.Region) (Go.Proofs.Ytpdddafaelbgkaa.Memo.regions (Go.Proofs.Ytpdddafaelbgkaa.memWrite m a v)) ((1 : Int) + (@Go.Proofs.Ytpdddafaelbgkaa.sumI Int (@Go.Proofs.Ytpdddafaelbgkaa.cOne Int) (Go.Proofs.Ytpdddafaelbgkaa.Img.bytes (Go.Proofs.Ytpdddafaelbgkaa.Memo.what (Go.Proofs.Ytpdddafaelbgkaa.memWrite m a v))))))) (1 : Int)) ≠ ((1 : Int) + (Go.Proofs.Ytpdddafaelbgkaa.cMe (Go.Proofs.Ytpdddafaelbgkaa.memWrite m a v))))) = false) →
 (((Go.Proofs.Ytpdddafaelbgkaa.szMe m) ≤ (1048576 : Int)) ∧
 ((((List.length (Go.Proofs.Ytpdddafaelbgkaa.Img.bytes (Go.Proofs.Ytpdddafaelbgkaa.Memo.what m))) ≤ (1048576 : Nat)) ∧
 ((List.length (Go.Proofs.Ytpdddafaelbgkaa.Memo.regions m)) ≤ (1048576 : Nat))) ∧
 ((((Bool.not (decide (@Eq Go.Proofs.Ytpdddafaelbgkaa.Memo (Go.Proofs.Ytpdddafaelbgkaa.memWrite m a v) (Go.Proofs.Ytpdddafaelbgkaa.memWrite m a v)))) = true) →
 ((false = true) ∧
 True)) ∧
 (((Bool.not (decide (@Eq Go.Proofs.Ytpdddafaelbgkaa.Memo (Go.Proofs.Ytpdddafaelbgkaa.memWrite m a v) (Go.Proofs.Ytpdddafaelbgkaa.memWrite m a v)))) = false) →
 ((((decide ((Go.Proofs.Ytpdddafaelbgkaa.mayW m a v) ≠ (Go.Proofs.Ytpdddafaelbgkaa.mayW m a v))) = true) →
 ((false = true) ∧
 True)) ∧
 (((decide ((Go.Proofs.Ytpdddafaelbgkaa.mayW m a v) ≠ (Go.Proofs.Ytpdddafaelbgkaa.mayW m a v))) = false) →
 ((((0 : Int) ≤ (1 : Int)) ∧
 (((1 : Int) + (Go.Proofs.Ytpdddafaelbgkaa.cMe (Go.Proofs.Ytpdddafaelbgkaa.Memo.mk (Go.Proofs.Ytpdddafaelbgkaa.Img.mk (Go.Proofs.Ytpdddafaelbgkaa.Img.base (Go.Proofs.Ytpdddafaelbgkaa.Memo.what (Go.Proofs.Ytpdddafaelbgkaa.memWrite m a v))) (@Go.Proofs.Ytpdddafaelbgkaa.mkL Int Go.Proofs.Ytpdddafaelbgkaa.mkU (@Go.Proofs.Ytpdddafaelbgkaa.cOne Int) (Go.Proofs.Ytpdddafaelbgkaa.Img.bytes (Go.Proofs.Ytpdddafaelbgkaa.Memo.what (Go.Proofs.Ytpdddafaelbgkaa.memWrite m a v))) (1 : Int))) (@Go.Proofs.Ytpdddafaelbgkaa.mkL Go.Proofs.Ytpdddafaelbgkaa.Region Go.Proofs.Ytpdddafaelbgkaa.mkRg (@Go.Proofs.Ytpdddafaelbgkaa.c4 Go.Proofs.Ytpdddafaelbgkaa.Region) (Go.Proofs.Ytpdddafaelbgkaa.Memo.regions (Go.Proofs.Ytpdddafaelbgkaa.memWrite m a v)) ((1 : Int) + (@Go.Proofs.Ytpdddafaelbgkaa.sumI Int (@Go.Proofs.Ytpdddafaelbgkaa.cOne Int) (Go.Proofs.Ytpdddafaelbgkaa.Img.bytes (Go.Proofs.Ytpdddafaelbgkaa.Memo.what (Go.Proofs.Ytpdddafaelbgkaa.memWrite m a v))))))))) ≤ (1000000000000 : Int))) ∧
 ((((decide ((Go.Proofs.Ytpdddafaelbgkaa.hMe (Go.Proofs.Ytpdddafaelbgkaa.Memo.mk (Go.Proofs.Ytpdddafaelbgkaa.Img.mk (Go.Proofs.Ytpdddafaelbgkaa.Img.base (Go.Proofs.Ytpdddafaelbgkaa.Memo.what (Go.Proofs.Ytpdddafaelbgkaa.memWrite m a v))) (@Go.Proofs.Ytpdddafaelbgkaa.mkL Int Go.Proofs.Ytpdddafaelbgkaa.mkU (@Go.Proofs.Ytpdddafaelbgkaa.cOne Int) (Go.Proofs.Ytpdddafaelbgkaa.Img.bytes (Go.Proofs.Ytpdddafaelbgkaa.Memo.what (Go.Proofs.Ytpdddafaelbgkaa.memWrite m a v))) (1 : Int))) (@Go.Proofs.Ytpdddafaelbgkaa.mkL Go.Proofs.Ytpdddafaelbgkaa.Region Go.Proofs.Ytpdddafaelbgkaa.mkRg (@Go.Proofs.Ytpdddafaelbgkaa.c4 Go.Proofs.Ytpdddafaelbgkaa.Region) (Go.Proofs.Ytpdddafaelbgkaa.Memo.regions (Go.Proofs.Ytpdddafaelbgkaa.memWrite m a v)) ((1 : Int) + (@Go.Proofs.Ytpdddafaelbgkaa.sumI Int (@Go.Proofs.Ytpdddafaelbgkaa.cOne Int) (Go.Proofs.Ytpdddafaelbgkaa.Img.bytes (Go.Proofs.Ytpdddafaelbgkaa.Memo.what (Go.Proofs.Ytpdddafaelbgkaa.memWrite m a v))))))) (1 : Int)) < (0 : Int))) = true) →
 ((false = true) ∧
 True)) ∧
 (((decide ((Go.Proofs.Ytpdddafaelbgkaa.hMe (Go.Proofs.Ytpdddafaelbgkaa.Memo.mk (Go.Proofs.Ytpdddafaelbgkaa.Img.mk (Go.Proofs.Ytpdddafaelbgkaa.Img.base (Go.Proofs.Ytpdddafaelbgkaa.Memo.what (Go.Proofs.Ytpdddafaelbgkaa.memWrite m a v))) (@Go.Proofs.Ytpdddafaelbgkaa.mkL Int Go.Proofs.Ytpdddafaelbgkaa.mkU (@Go.Proofs.Ytpdddafaelbgkaa.cOne Int) (Go.Proofs.Ytpdddafaelbgkaa.Img.bytes (Go.Proofs.Ytpdddafaelbgkaa.Memo.what (Go.Proofs.Ytpdddafaelbgkaa.memWrite m a v))) (1 : Int))) (@Go.Proofs.Ytpdddafaelbgkaa.mkL Go.Proofs.Ytpdddafaelbgkaa.Region Go.Proofs.Ytpdddafaelbgkaa.mkRg (@Go.Proofs.Ytpdddafaelbgkaa.c4 Go.Proofs.Ytpdddafaelbgkaa.Region) (Go.Proofs.Ytpdddafaelbgkaa.Memo.regions (Go.Proofs.Ytpdddafaelbgkaa.memWrite m a v)) ((1 : Int) + (@Go.Proofs.Ytpdddafaelbgkaa.sumI Int (@Go.Proofs.Ytpdddafaelbgkaa.cOne Int) (Go.Proofs.Ytpdddafaelbgkaa.Img.bytes (Go.Proofs.Ytpdddafaelbgkaa.Memo.what (Go.Proofs.Ytpdddafaelbgkaa.memWrite m a v))))))) (1 : Int)) < (0 : Int))) = false) →
 ((((decide ((Go.Proofs.Ytpdddafaelbgkaa.hMe (Go.Proofs.Ytpdddafaelbgkaa.Memo.mk (Go.Proofs.Ytpdddafaelbgkaa.Img.mk (Go.Proofs.Ytpdddafaelbgkaa.Img.base (Go.Proofs.Ytpdddafaelbgkaa.Memo.what (Go.Proofs.Ytpdddafaelbgkaa.memWrite m a v))) (@Go.Proofs.Ytpdddafaelbgkaa.mkL Int Go.Proofs.Ytpdddafaelbgkaa.mkU (@Go.Proofs.Ytpdddafaelbgkaa.cOne Int) (Go.Proofs.Ytpdddafaelbgkaa.Img.bytes (Go.Proofs.Ytpdddafaelbgkaa.Memo.what (Go.Proofs.Ytpdddafaelbgkaa.memWrite m a v))) (1 : Int))) (@Go.Proofs.Ytpdddafaelbgkaa.mkL Go.Proofs.Ytpdddafaelbgkaa.Region Go.Proofs.Ytpdddafaelbgkaa.mkRg (@Go.Proofs.Ytpdddafaelbgkaa.c4 Go.Proofs.Ytpdddafaelbgkaa.Region) (Go.Proofs.Ytpdddafaelbgkaa.Memo.regions (Go.Proofs.Ytpdddafaelbgkaa.memWrite m a v)) ((1 : Int) + (@Go.Proofs.Ytpdddafaelbgkaa.sumI Int (@Go.Proofs.Ytpdddafaelbgkaa.cOne Int) (Go.Proofs.Ytpdddafaelbgkaa.Img.bytes (Go.Proofs.Ytpdddafaelbgkaa.Memo.what (Go.Proofs.Ytpdddafaelbgkaa.memWrite m a v))))))) (1 : Int)) ≠ ((1 : Int) + (Go.Proofs.Ytpdddafaelbgkaa.cMe (Go.Proofs.Ytpdddafaelbgkaa.memWrite m a v))))) = true) →
 ((false = true) ∧
 True)) ∧
 (((decide ((Go.Proofs.Ytpdddafaelbgkaa.hMe (Go.Proofs.Ytpdddafaelbgkaa.Memo.mk (Go.Proofs.Ytpdddafaelbgkaa.Img.mk (Go.Proofs.Ytpdddafaelbgkaa.Img.base (Go.Proofs.Ytpdddafaelbgkaa.Memo.what (Go.Proofs.Ytpdddafaelbgkaa.memWrite m a v))) (@Go.Proofs.Ytpdddafaelbgkaa.mkL Int Go.Proofs.Ytpdddafaelbgkaa.mkU (@Go.Proofs.Ytpdddafaelbgkaa.cOne Int) (Go.Proofs.Ytpdddafaelbgkaa.Img.bytes (Go.Proofs.Ytpdddafaelbgkaa.Memo.what (Go.Proofs.Ytpdddafaelbgkaa.memWrite m a v))) (1 : Int))) (@Go.Proofs.Ytpdddafaelbgkaa.mkL Go.Proofs.Ytpdddafaelbgkaa.Region Go.Proofs.Ytpdddafaelbgkaa.mkRg (@Go.Proofs.Ytpdddafaelbgkaa.c4 Go.Proofs.Ytpdddafaelbgkaa.Region) (Go.Proofs.Ytpdddafaelbgkaa.Memo.regions (Go.Proofs.Ytpdddafaelbgkaa.memWrite m a v)) ((1 : Int) + (@Go.Proofs.Ytpdddafaelbgkaa.sumI Int (@Go.Proofs.Ytpdddafaelbgkaa.cOne Int) (Go.Proofs.Ytpdddafaelbgkaa.Img.bytes (Go.Proofs.Ytpdddafaelbgkaa.Memo.what (Go.Proofs.Ytpdddafaelbgkaa.memWrite m a v))))))) (1 : Int)) ≠ ((1 : Int) + (Go.Proofs.Ytpdddafaelbgkaa.cMe (Go.Proofs.Ytpdddafaelbgkaa.memWrite m a v))))) = false) →
 ((true = true) ∧
 True)))))))))))))))))))))))))))))))))))))))) := by kernel_rfl
theorem det_laws_FnExactMemoryWrite : C_laws_FnExactMemoryWrite.det = true → ∀ x, (C_laws_FnExactMemoryWrite.out x).Det := fun _ x => by simp only [C_laws_FnExactMemoryWrite]; repeat (first | exact Det.ret _ | exact Det.vc' | apply Det.req | apply Det.giv | apply Det.fork | apply Det.bif' | intro _)
set_option maxRecDepth 200000 in
set_option maxHeartbeats 1000000 in
theorem ok_laws_FnExactMemoryWrite : ConOK Try.prog 17 C_laws_FnExactMemoryWrite := by
  refine con_mk (wr := false) (ty := tyL [(3, .i), (5, .u), (4, .bool), (9, .str), (163, .int .u64), (71, .st .fixup), (24, .st .img), (39, .st .region), (35, .st .mem), (30, .st .patch), (94, .st .hash), (92, .list .i), (90, .list .str), (22, .list .u), (67, .st .fixup), (52, .st .img), (149, .st .region), (55, .st .mem), (101, .st .hash)]) (l := [(41, C_laws_szMemory), (42, C_laws_toMemory), (71, C_spec_MemoryWrite), (70, C_impl_MemoryWrite), (43, C_laws_eqMemory), (73, C_laws_markMemory), (74, C_laws_heldMemory)]) ⟨⟨ok_laws_szMemory, det_laws_szMemory⟩, ⟨⟨ok_laws_toMemory, det_laws_toMemory⟩, ⟨⟨ok_spec_MemoryWrite, det_spec_MemoryWrite⟩, ⟨⟨ok_impl_MemoryWrite, det_impl_MemoryWrite⟩, ⟨⟨ok_laws_eqMemory, det_laws_eqMemory⟩, ⟨⟨ok_laws_markMemory, det_laws_markMemory⟩, ⟨⟨ok_laws_heldMemory, det_laws_heldMemory⟩, trivial⟩⟩⟩⟩⟩⟩⟩ Try.checked.mixed (fn := Try.f17) (body := Try.f17.body.getD .skip) Try.func17 rfl (by decide) (by kernel_rfl) rfl an_laws_FnExactMemoryWrite fun x ho hx => ?_
  obtain ⟨m, a, v, ⟨⟩⟩ := x
  refine Keeps.of (vc_laws_FnExactMemoryWrite m a v) ?_
  revert m a v ho hx
  show ∀ (m : Memo) (a : Int) (v : Int), _
  intro m a v ho hx
  dsimp only [C_laws_FnExactMemoryWrite, okPTL, okPT, Ok, Ty.cells, SN.cells, OkL, OkC, okI, ci, cb, cs, cl] at ho
  dsimp only [C_laws_FnExactMemoryWrite, vc, v1, decB, SR.pre] at hx
  have hw := write_len m a v
  have hm := hMe_mk (memWrite m a v) 1 (by omega)
  have c1 : cMe m = m.what.bytes.length + 4 * m.regions.length := by simp only [cMe, cOne_len, c4_len]
  have c2 : cMe (memWrite m a v) = (memWrite m a v).what.bytes.length + 4 * (memWrite m a v).regions.length := by simp only [cMe, cOne_len, c4_len]
  have sz : szMe m = m.what.bytes.length + m.regions.length := rfl
  have c3 : cMe (mkMe (memWrite m a v) 1) = cMe (memWrite m a v) := by simp only [cMe, mkMe, cOne_len, c4_len, mkL_len]
  unfold mkMe at hm c3
  simp only [decide_eq_true_eq, decide_eq_false_iff_not, Bool.not_eq_true', Bool.not_eq_false', and_true, true_and, Int.toNat_natCast, exists_eq_left', exists_eq_left, exists_and_left, Int.not_lt, Int.not_le, Bool.false_eq_true, false_implies, implies_true, forall_const, List.length_append, List.length_cons, List.length_nil, Int.sub_add_cancel, Int.add_sub_cancel, and_imp, get_set_iff, forall_eq', forall_eq, List.set_set, mkd_get, mkd_len, List.length_set, Option.some.injEq]; (repeat' first | intro _ | apply And.intro); all_goals (try omega); all_goals grind [szR]

set_option maxRecDepth 100000 in
theorem lifted_FnExactMemoryWrite (os : Os) (started : os.Started) (H : Type) (enc : TypeId × Value → H) :
    ReturnsInHanded {} Try.checked os 17 .any (Rows.fnExactMemoryWriteSpec.pre6 enc Try.prog Try.f17 Rows.fnExactMemoryWriteRow.domain false) (Rows.fnExactMemoryWriteSpec.post enc Try.prog Try.f17 false true false false) := by
  refine returnsInHanded_of_change (C := Try.checked) head_own started (by kernel_rfl) Try.func17
    (ChangeSpec.witness6 (enc := enc) (C := Try.checked) false ⟨#[], #[.agg #[.int .i64 0, .slice none 0 0, .slice none 0 0], .int .i64 0, .int .i64 0], []⟩ 8 (by kernel_rfl) (by kernel_rfl) (by kernel_rfl) (by kernel_rfl)) ?_
  intro W base args ds gs before hval0 hW _ _
  have hval : ∀ (j : Nat) t v, Try.f17.params[j]? = some t → args[j]? = some v → Value.okWide Try.prog W .any base t v := hval0
  have hW' := hW
  obtain ⟨p, q, hA0, hV, rfl, hfz, hnd⟩ := hW
  have hA : DataW.TrodAll enc Try.prog W 0 (fun _ => true) true Try.f17.params.toList args.toList ds p := hA0
  rw [Try.params17] at hA hval
  obtain ⟨v0, vs0, d0, ds0, p0, q0, hargs, rfl, rfl, h0, r0⟩ := trodAll_cons hA
  obtain ⟨v1, vs1, d1, ds1, p1, q1, rfl, rfl, rfl, h1, r1⟩ := trodAll_cons r0
  obtain ⟨v2, vs2, d2, ds2, p2, q2, rfl, rfl, rfl, h2, r2⟩ := trodAll_cons r1
  obtain ⟨rfl, rfl, rfl⟩ := trodAll_nil r2
  obtain rfl : args = #[v0, v1, v2] := by cases args; simp_all
  obtain ⟨rfl, rfl⟩ := trodVars_none hV
  have k0 := h0
  obtain ⟨x0, g0⟩ := open_agg Try.underlying55 rd_mem (hval 0 55 v0 rfl rfl) h0
  have k1 := h1
  obtain ⟨n1, hn1, _, _, _⟩ := open_int Try.underlying3 (hval 1 3 v1 rfl rfl) h1
  obtain ⟨x1, g1⟩ := open_one (by rw [hn1]; rfl) rd_i h1
  have k2 := h2
  obtain ⟨n2, hn2, _, _, _⟩ := open_int Try.underlying3 (hval 2 3 v2 rfl rfl) h2
  obtain ⟨x2, g2⟩ := open_one (by rw [hn2]; rfl) rd_i h2
  clear hA0 hval0 hval
  refine (law_calls ok_laws_FnExactMemoryWrite (x0, x1, x2, ()) rfl rfl (W := W) (vals := [v0, v1, v2]) ⟨g0, g1, g2, trivial⟩).mono fun e W' ⟨he, bel⟩ => ?_
  subst he
  exact ⟨_, rfl, _, _, _, [], _, [], hW', trodAll_mk1 (shut_bool Try.underlying4 _), (trodAll_cons_mk (Below.trod head_laid (by kernel_rfl) (of_decide_eq_true (by kernel_rfl)) k0 bel (trod_lt_ k0)) (trodAll_cons_mk (Below.trod head_laid (by kernel_rfl) (of_decide_eq_true (by kernel_rfl)) k1 bel (trod_lt_ k1)) (trodAll_cons_mk (Below.trod head_laid (by kernel_rfl) (of_decide_eq_true (by kernel_rfl)) k2 bel (trod_lt_ k2)) trodAll_mk0))), rfl, bel.frame _, fun h => by cases h⟩

theorem over_FnExactMemoryWrite : Rows.fnExactMemoryWriteRow.holds Try.pinned (OpenSpec.ofChange Rows.fnExactMemoryWriteSpec) :=
  OpenClaim.holds_of_wide 17 Try.f17 rfl rfl rfl rfl rfl rfl rfl ⟨rfl, rfl, rfl, rfl, rfl⟩ rfl rfl rfl rfl rfl (by kernel_rfl) Try.func17 (joined_of head_laid head_rowed head_stops head_stopk head_heard head_enter (show (Rows.fnExactMemoryWriteRow.lifted == Try.prog.liftsFinal) = true by rw [head_final]; rfl) (show (Try.prog.make == some Rows.fnExactMemoryWriteRow.make) = true by rw [head_make]; rfl) (by kernel_rfl))
    (of_decide_eq_true (by kernel_rfl)) (by unfold Func.isWrapper; first | (rw [if_pos (by decide +kernel)]; kernel_rfl) | (rw [if_neg (by decide +kernel)]; exact ⟨rfl, rfl⟩))
    (fun os started H enc _ => lifted_FnExactMemoryWrite os started H enc)

theorem proved_FnExactMemoryWrite : Rows.FnExactMemoryWriteSaid := over_FnExactMemoryWrite
#print axioms proved_FnExactMemoryWrite

end Go.Proofs.Ytpdddafaelbgkaa
