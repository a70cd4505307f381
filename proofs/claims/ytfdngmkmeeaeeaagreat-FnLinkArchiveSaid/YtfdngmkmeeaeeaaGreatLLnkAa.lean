/- The law on archives that are linked. -/
import Derived.Test.YtfdngmkmeeaeeaaGreatDrawLa
import Derived.Test.YtfdngmkmeeaeeaaGreatSamea
import Derived.Test.YtfdngmkmeeaeeaaGreatMemOa
import Derived.Test.YtfdngmkmeeaeeaaGreatLnkLa
import Derived.Test.YtfdngmkmeeaeeaaGreatHeada
set_option linter.unusedVariables false
set_option linter.unusedSimpArgs false
set_option maxRecDepth 200000
set_option maxHeartbeats 4000000
namespace Go.Proofs.YtfdngmkmeeaeeaaGreat
open Go Go.RowKit Go.ChangeShapes Go.WideShapes Go.Deep


theorem NE_selfL {α : Type} {x : α} (h : x ≠ x) : False := h rfl
theorem NT_L (h : ¬ True) : False := h trivial
theorem tak_none {l : List Objt} (h : nMs l = []) (arch : List Member) : (taken l arch).all = l := by
 have hm : ∀ m, hasM l m = false := fun m => by
  unfold hasM; rw [h]; simp
 have hx : nextM l [] arch 0 < 0 := by
  rcases nextM_spec (all := l) (out := []) (l := arch) (k := 0) (Int.le_refl 0) with h1 | ⟨i, m, _, _, _, h2⟩
  ·rw [h1.1]; decide
  ·rw [hm] at h2; cases h2
 unfold taken
 rw [tk_none (st := ⟨[], l⟩) hx]
theorem lnkA_all {l : List Objt} {arch : List Member} {b : Int} (h : objsB l = true) (ha : archB arch = true) (hn : ((namesM l).length : Int) ≤ 0) : lnkAV l arch b = link l b := by
 have h1 : namesM l = [] := List.eq_nil_of_length_eq_zero (by omega)
 rw [namesM, if_pos h] at h1
 rw [lnkAV_yes h ha, tak_none h1]
theorem objsA_take {l : List Objt} (n : Nat) (h : objsA l = true) : objsA (l.take n) = true := List.all_eq_true.2 fun o ho => List.all_eq_true.1 h o (List.mem_of_mem_take ho)
def C_spec_DrawLinkArchive : Con := { ps := [.ro (.list .u)], out := fun x => let c : List (Int) := x.1; .all (List Objt) fun l => .all (List Member) fun m => .all Int fun b => .giv (l.length ≤ 5 ∧ objsA l = true ∧ m.length ≤ 6 ∧ mbsA m = true ∧ -8 ≤ b ∧ b ≤ 4104) (.ret { val := .tup [(false, [.c (cl (.st .obj) l)]), (false, [.c (cl (.st .member) m)]), (false, [.c (ci b)])] }), det := false }
abbrev L_spec_DrawLinkArchive : List (Nat × Con) := [(91, C_spec_l20Open), (111, C_spec_l20Objects), (112, C_spec_l20Archive), (113, C_spec_l20Base)]
def G_spec_DrawLinkArchive : Cfg := GK L_spec_DrawLinkArchive
def an_spec_DrawLinkArchive : PTL C_spec_DrawLinkArchive.ps → Nat → Option Ann := fun _ _ => none
theorem vc_spec_DrawLinkArchive (c : List (Int)) : (KP Tryz.f54 G_spec_DrawLinkArchive C_spec_DrawLinkArchive an_spec_DrawLinkArchive (c, ())) = (((0 : Int) ≤ (0 : Int) ∧ (0 : Int) ≤ (1000000 : Int) ∧ (0 : Int) ≤ (14 : Int) ∧ (14 : Int) ≤ (100000 : Int)) ∧ (∀ (a : List Objt), (∀ (b : Int), 0 ≤ b ∧ b ≤ (0 : Int) + (5000 : Int) ∧ a.length ≤ 5 ∧ objsA a = true →
 a.length ≤ 9223372036854775807 →
 (decide (1 < LN a) = true →
 ((0 : Int) ≤ (1 : Int) ∧ 1 ≤ LN a) ∧ (0 ≤ b ∧ b ≤ 500000 ∧ (0 : Int) ≤ (14 : Int) ∧ (14 : Int) ≤ (100000 : Int)) ∧ (∀ (d : List Member), (∀ (e : Int), b ≤ e ∧ e ≤ b + 10000 ∧ d.length ≤ 6 ∧ mbsA d = true →
 (0 ≤ e ∧ e ≤ 100000000 ∧ (14 : Int) ≤ (1000000 : Int)) ∧ (∀ (f : Int), (∀ (g : Int), e ≤ g ∧ g ≤ e + 5 ∧ (- (8 : Int)) ≤ f ∧ f ≤ 4104 →
 (∃ (h : List Objt), (∃ (i : List Member), (∃ (j : Int), ((a.drop 0).take 1 = h ∧ d = i ∧ f = j ∧ True) ∧ h.length ≤ 5 ∧ objsA h = true ∧ i.length ≤ 6 ∧ mbsA i = true ∧ (- (8 : Int)) ≤ j ∧ j ≤ 4104)))))))) ∧ (decide (1 < LN a) = false →
 (0 ≤ b ∧ b ≤ 500000 ∧ (0 : Int) ≤ (14 : Int) ∧ (14 : Int) ≤ (100000 : Int)) ∧ (∀ (k : List Member), (∀ (l : Int), b ≤ l ∧ l ≤ b + 10000 ∧ k.length ≤ 6 ∧ mbsA k = true →
 (0 ≤ l ∧ l ≤ 100000000 ∧ (14 : Int) ≤ (1000000 : Int)) ∧ (∀ (m : Int), (∀ (n : Int), l ≤ n ∧ n ≤ l + 5 ∧ (- (8 : Int)) ≤ m ∧ m ≤ 4104 →
 (∃ (o : List Objt), (∃ (p : List Member), (∃ (q : Int), (a = o ∧ k = p ∧ m = q ∧ True) ∧ o.length ≤ 5 ∧ objsA o = true ∧ p.length ≤ 6 ∧ mbsA p = true ∧ (- (8 : Int)) ≤ q ∧ q ≤ 4104))))))))))) := by kernel_rfl
theorem det_spec_DrawLinkArchive : C_spec_DrawLinkArchive.det = true → ∀ x, (C_spec_DrawLinkArchive.out x).Det := fun h => absurd h Bool.false_ne_true
theorem ok_spec_DrawLinkArchive : ConOK Tryz.prog 54 C_spec_DrawLinkArchive := by
 refine con_q (l := L_spec_DrawLinkArchive) ⟨⟨ok_spec_l20Open, det_spec_l20Open⟩, ⟨⟨ok_spec_l20Objects, det_spec_l20Objects⟩, ⟨⟨ok_spec_l20Archive, det_spec_l20Archive⟩, ⟨⟨ok_spec_l20Base, det_spec_l20Base⟩, trivial⟩⟩⟩⟩ Tryz.func54 rfl (by decide) (by kernel_rfl) rfl an_spec_DrawLinkArchive fun x ho hx => ?_
 obtain ⟨c, ⟨⟩⟩ := x
 refine Keeps.of (vc_spec_DrawLinkArchive c) ?_
 revert c ho hx
 show ∀ (c : List (Int)), _
 intro c ho hx
 dsimp only [C_spec_DrawLinkArchive, okPTL, okPT, Ok, Ty.cells, SN.cells, OkL, OkC, okI, ci, cb, cs, cl] at ho
 dsimp only [C_spec_DrawLinkArchive, vc, v1, decB, SR.pre] at hx
 (try delta i64 LN); simp only [DRt, ex_sect2]; (repeat' first | apply And.intro | (intro x hq _; replace hq := List.mem_of_getElem? hq; simp only [List.mem_cons, List.not_mem_nil, or_false] at hq) | intro _); all_goals (try omega)
 all_goals first
  | omega
  | assumption
  | exact objsA_take _ (by assumption)
  | (simp only [List.length_take]; omega)
  | skip
theorem LA_1 {l : List Objt} {arch : List Member} {b : Int} (hn : ¬ (lnkAV l arch b).snd = -1) (h : objsB l = false) : False := hn (by rw [lnkAV_no (.inl h)])
theorem LA_2 {l : List Objt} {arch : List Member} {b : Int} (hn : ¬ (lnkAV l arch b).snd = -1) (h : archB arch = false) : False := hn (by rw [lnkAV_no (.inr h)])
theorem LA_3 {l : List Objt} {arch : List Member} {b : Int} (h : objsB l = true) (ha : archB arch = true) (hn : ((namesM l).length : Int) ≤ 0) : (lnkAV l arch b).fst = (link l b).fst := by rw [lnkA_all h ha hn]
theorem LA_4 {l : List Objt} {arch : List Member} {b : Int} (hx : ¬ (lnkAV l arch b).snd = (link l b).snd) (h : objsB l = true) (ha : archB arch = true) (hn : ((namesM l).length : Int) ≤ 0) : False := hx (by rw [lnkA_all h ha hn])
def C_laws_FnLinkArchive : Con := { ps := [.ro (.list .u)], out := fun x => let c : List (Int) := x.1; vc .bool true, det := true }
abbrev L_laws_FnLinkArchive : List (Nat × Con) := [(54, C_spec_DrawLinkArchive), (29, C_impl_LinkArchive), (27, C_spec_LinkArchive), (39, C_laws_sameImage), (55, C_spec_ObjectsValid), (56, C_spec_ArchiveValid), (37, C_laws_alive), (47, C_impl_NamesMissing), (15, C_impl_Link)]
def G_laws_FnLinkArchive : Cfg := GK L_laws_FnLinkArchive
def an_laws_FnLinkArchive : PTL C_laws_FnLinkArchive.ps → Nat → Option Ann := fun _ _ => none
theorem vc_laws_FnLinkArchive (c : List (Int)) : (KP Tryz.f11 G_laws_FnLinkArchive C_laws_FnLinkArchive an_laws_FnLinkArchive (c, ())) = (c.length ≤ 9223372036854775807 →
 (decide (1048576 < LN c) = true →
 true = true ∧ True) ∧ (decide (1048576 < LN c) = false →
 (∀ (a : List Objt), (∀ (b : List Member), (∀ (d : Int), a.length ≤ 5 ∧ objsA a = true ∧ b.length ≤ 6 ∧ mbsA b = true ∧ (- (8 : Int)) ≤ d ∧ d ≤ 4104 →
 (LN a + @sumI Objt szOb a ≤ 1048576 ∧ LN b + @sumI Member szMb b ≤ 1048576) ∧ (Bool.not (decide ((lnkAV a b d).fst = (lnkAV a b d).fst)) = true →
 false = true ∧ True) ∧ (Bool.not (decide ((lnkAV a b d).fst = (lnkAV a b d).fst)) = false →
 (decide ((lnkAV a b d).snd ≠ (lnkAV a b d).snd) = true →
 false = true ∧ True) ∧ (decide ((lnkAV a b d).snd ≠ (lnkAV a b d).snd) = false →
 (Bool.not (objsB a) = true →
 (decide ((lnkAV a b d).snd = (- (1 : Int))) = true →
 true = true ∧ True) ∧ (decide ((lnkAV a b d).snd = (- (1 : Int))) = false →
 false = true ∧ True)) ∧ (Bool.not (objsB a) = false →
 (Bool.not (archB b) = true →
 (decide ((lnkAV a b d).snd = (- (1 : Int))) = true →
 true = true ∧ True) ∧ (decide ((lnkAV a b d).snd = (- (1 : Int))) = false →
 false = true ∧ True)) ∧ (Bool.not (archB b) = false →
 (namesM a).length ≤ 9223372036854775807 →
 (decide (0 < LN (namesM a)) = true →
 true = true ∧ True) ∧ (decide (0 < LN (namesM a)) = false →
 (decide ((lnkAV a b d).snd = (link a d).snd) = true →
 decide ((lnkAV a b d).fst = (link a d).fst) = true ∧ True) ∧ (decide ((lnkAV a b d).snd = (link a d).snd) = false →
 false = true ∧ True))))))))))) := by kernel_rfl
theorem ok_laws_FnLinkArchive : ConOK Tryz.prog 11 C_laws_FnLinkArchive := by
 refine con_q (l := L_laws_FnLinkArchive) ⟨⟨ok_spec_DrawLinkArchive, det_spec_DrawLinkArchive⟩, ⟨⟨ok_impl_LinkArchive, det_impl_LinkArchive⟩, ⟨⟨ok_spec_LinkArchive, det_spec_LinkArchive⟩, ⟨⟨ok_laws_sameImage, det_laws_sameImage⟩, ⟨⟨ok_spec_ObjectsValid, det_spec_ObjectsValid⟩, ⟨⟨ok_spec_ArchiveValid, det_spec_ArchiveValid⟩, ⟨⟨ok_laws_alive, det_laws_alive⟩, ⟨⟨ok_impl_NamesMissing, det_impl_NamesMissing⟩, ⟨⟨ok_impl_Link, det_impl_Link⟩, trivial⟩⟩⟩⟩⟩⟩⟩⟩⟩ Tryz.func11 rfl (by decide) (by kernel_rfl) rfl an_laws_FnLinkArchive fun x ho hx => ?_
 obtain ⟨c, ⟨⟩⟩ := x
 refine Keeps.of (vc_laws_FnLinkArchive c) ?_
 revert c ho hx
 show ∀ (c : List (Int)), _
 intro c ho hx
 dsimp only [C_laws_FnLinkArchive, okPTL, okPT, Ok, Ty.cells, SN.cells, OkL, OkC, okI, ci, cb, cs, cl] at ho
 dsimp only [C_laws_FnLinkArchive, vc, v1, decB, SR.pre] at hx
 (try delta i64 LN); simp only [DRt, ex_sect2]; (repeat' first | apply And.intro | (intro x hq _; replace hq := List.mem_of_getElem? hq; simp only [List.mem_cons, List.not_mem_nil, or_false] at hq) | intro _); all_goals (try omega)
 all_goals first
  | omega
  | (have := objsA_sz (by assumption) (by omega); omega)
  | (have := mbsA_sz (by assumption) (by omega); omega)
  | exact NE_selfL (by assumption)
  | exact NT_L (by assumption)
  | exact LA_1 (by assumption) (by assumption)
  | exact LA_2 (by assumption) (by assumption)
  | exact LA_3 (by assumption) (by assumption) (by assumption)
  | exact LA_4 (by assumption) (by assumption) (by assumption) (by assumption)
  | skip

theorem rd_u : Reads Tryz.prog 5 [.u] := reads_u8 Tryz.underlying5
theorem rd_uL : Reads Tryz.prog 24 [(.list .u)] := reads_slice (t' := .u) Tryz.underlying24 (by kernel_rfl) (by decide) rd_u
set_option maxRecDepth 100000 in
theorem lifted_FnLinkArchive (os : Os) (started : os.Started) (H : Type) (enc : TypeId × Value → H) :
  ReturnsInHanded {} Tryz.checked os 11 .any (Rows.fnLinkArchiveSpec.pre6 enc Tryz.prog Tryz.f11 Rows.fnLinkArchiveRow.domain false) (Rows.fnLinkArchiveSpec.post enc Tryz.prog Tryz.f11 false true false false) := by
 refine returnsInHanded_of_change (C := Tryz.checked) head_own started (by kernel_rfl) Tryz.func11
  (ChangeSpec.witness6 (enc := enc) (C := Tryz.checked) false ⟨#[], #[.slice none 0 0], []⟩ 8 (by kernel_rfl) (by kernel_rfl) (by kernel_rfl) (by kernel_rfl)) ?_
 intro W base args ds gs before hval0 hW _ _
 have hval : ∀ (j : Nat) t v, Tryz.f11.params[j]? = some t → args[j]? = some v → Value.okWide Tryz.prog W .any base t v := hval0
 have hW' := hW
 obtain ⟨p, q, hA0, hV, rfl, hfz, hnd⟩ := hW
 have hA : DataW.TrodAll enc Tryz.prog W 0 (fun _ => true) true Tryz.f11.params.toList args.toList ds p := hA0
 rw [Tryz.params11] at hA hval
 obtain ⟨v0, vs0, d0, ds0, p0, q0, hargs, rfl, rfl, h0, r0⟩ := trodAll_cons hA
 obtain ⟨rfl, rfl, rfl⟩ := trodAll_nil r0
 obtain rfl : args = #[v0] := by cases args; simp_all
 obtain ⟨rfl, rfl⟩ := trodVars_none hV
 have k0 := h0
 obtain ⟨x0, g0⟩ := open_slice1 Tryz.underlying24 rd_uL (hval 0 24 v0 rfl rfl) h0
 clear hA0 hval0 hval
 refine (law_calls ok_laws_FnLinkArchive (x0, ()) rfl rfl (W := W) (vals := [v0]) ⟨g0, trivial⟩).mono fun e W' ⟨he, bel⟩ => ?_
 subst he
 exact ⟨_, rfl, _, _, _, [], _, [], hW', trodAll_mk1 (shut_bool Tryz.underlying4 _), (trodAll_cons_mk (Below.trod head_laid (by kernel_rfl) (of_decide_eq_true (by kernel_rfl)) k0 bel (trod_lt_ k0)) trodAll_mk0), rfl, bel.frame _, fun h => by cases h⟩

theorem over_FnLinkArchive : Rows.fnLinkArchiveRow.holds Tryz.pinned (OpenSpec.ofChange Rows.fnLinkArchiveSpec) :=
 OpenClaim.holds_of_wide 11 Tryz.f11 rfl rfl rfl rfl rfl rfl rfl ⟨rfl, rfl, rfl, rfl, rfl⟩ rfl rfl rfl rfl rfl (by kernel_rfl) Tryz.func11 (joined_of head_laid head_rowed head_stops head_stopk head_heard head_enter (show (Rows.fnLinkArchiveRow.lifted == Tryz.prog.liftsFinal) = true by rw [head_final]; rfl) (show (Tryz.prog.make == some Rows.fnLinkArchiveRow.make) = true by rw [head_make]; rfl) (by kernel_rfl))
  (of_decide_eq_true (by kernel_rfl)) (by unfold Func.isWrapper; first | (rw [if_pos (by decide +kernel)]; kernel_rfl) | (rw [if_neg (by decide +kernel)]; exact ⟨rfl, rfl⟩))
  (fun os started H enc _ => lifted_FnLinkArchive os started H enc)

theorem proved_FnLinkArchive : Rows.FnLinkArchiveSaid := over_FnLinkArchive
#print axioms proved_FnLinkArchive

end Go.Proofs.YtfdngmkmeeaeeaaGreat
