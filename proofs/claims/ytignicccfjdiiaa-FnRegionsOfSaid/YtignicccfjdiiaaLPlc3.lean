/- The laws on places. -/
import Derived.Test.YtignicccfjdiiaaDrawL
import Derived.Test.YtignicccfjdiiaaPlcE
import Derived.Test.YtignicccfjdiiaaLnk
import Derived.Test.YtignicccfjdiiaaSame
import Derived.Test.YtignicccfjdiiaaHead
set_option linter.unusedVariables false
set_option linter.unusedSimpArgs false
set_option maxRecDepth 200000
set_option maxHeartbeats 4000000
namespace Go.Proofs.Ytignicccfjdiiaa
open Go Go.RowKit Go.ChangeShapes Go.WideShapes Go.Deep


theorem RG_ne {f : List Region} {k : Nat} {r s : Region} (h : (decide (r.from_ = s.from_) && (decide (r.to = s.to) && (decide (r.write = s.write) && (decide (r.run = s.run) && true)))) = false) (h1 : f[k]? = some r) (h2 : f[k]? = some s) : False := by
  rw [h1] at h2; injection h2 with h2; subst h2; simp at h
theorem RG_rw {f : List Region} {k : Int} {r s : Region} (h : r.run = s.write) (h1 : f[k.toNat]? = some r) (h2 : f[k.toNat]? = some s) (hg : RG f) (hk : 0 ≤ k) : False := by
  rw [h1] at h2; injection h2 with h2; subst h2
  have := ((RG_at hg).2 _ _ hk h1).1
  rw [this] at h; cases hw : r.write <;> simp [hw] at h
theorem RG_ft {f : List Region} {k : Int} {r s : Region} (h : r.to ≤ s.from_) (h1 : f[k.toNat]? = some r) (h2 : f[k.toNat]? = some s) (hg : RG f) (hk : 0 ≤ k) : False := by
  rw [h1] at h2; injection h2 with h2; subst h2
  have := ((RG_at hg).2 _ _ hk h1).2.1
  omega
theorem RG_pr {f : List Region} {k : Int} {r s : Region} (h : r.from_ < s.to) (h1 : f[k.toNat]? = some r) (h2 : f[(k - 1).toNat]? = some s) (hg : RG f) (hk : 0 < k) : False := by
  have := ((RG_at hg).2 _ _ (by omega) h1).2.2 _ hk h2
  omega
theorem RG_3 {f : List Region} (h : 3 < (f.length : Int)) (hg : RG f) : False := by have := (RG_at hg).1; omega
def C_laws_FnRegionsOf : Con := { ps := [.ro (.list .u)], out := fun x => let c : List (Int) := x.1; vc .bool true, det := true }
abbrev L_laws_FnRegionsOf : List (Nat × Con) := [(30, C_spec_DrawRegionsOf), (31, C_impl_RegionsOf), (32, C_spec_RegionsOf), (18, C_laws_alive)]
def G_laws_FnRegionsOf : Cfg := GK L_laws_FnRegionsOf
def an_laws_FnRegionsOf : PTL C_laws_FnRegionsOf.ps → Nat → Option Ann := fun x kk_ => let c : List (Int) := x.1; if kk_ = 9 then some (.all (List Region) fun q => .all (Int) fun k => .giv (RG q ∧ 0 ≤ k ∧ k ≤ q.length) (.mk [(5, al (.st .region) q), (6, al (.st .region) q), (7, ai k)] [] ((q.length - k.toNat)))) else none
theorem vc_laws_FnRegionsOf (c : List (Int)) : (KP Try.f7 G_laws_FnRegionsOf C_laws_FnRegionsOf an_laws_FnRegionsOf (c, ())) = (c.length ≤ 9223372036854775807 →
 (decide (1048576 < LN c) = true →
 true = true ∧ True) ∧ (decide (1048576 < LN c) = false →
 (∀ (a : List Objt), (∀ (b : Int), a.length ≤ 5 ∧ objsA a = true ∧ (- (8 : Int)) ≤ b ∧ b ≤ 4104 →
 LN a + @sumI Objt szOb a ≤ 1048576 ∧ ((regs (layout a b).ends 0).length ≤ 9223372036854775807 →
 (regs (layout a b).ends 0).length ≤ 9223372036854775807 →
 (decide (LN (regs (layout a b).ends 0) ≠ LN (regs (layout a b).ends 0)) = true →
 false = true ∧ True) ∧ (decide (LN (regs (layout a b).ends 0) ≠ LN (regs (layout a b).ends 0)) = false →
 (∃ (d : List Region), (∃ (e : Int), regs (layout a b).ends 0 = d ∧ regs (layout a b).ends 0 = d ∧ 0 = e ∧ (RG d ∧ 0 ≤ e ∧ e ≤ LN d) ∧ True)) ∧ (∀ (f : List Region), (∀ (g : Int), RG f ∧ 0 ≤ g ∧ g ≤ LN f →
 f.length ≤ 9223372036854775807 →
 (decide (g < LN f) = true →
 (0 ≤ g ∧ g < LN f) ∧ (∀ (h : Region), f[g.toNat]? = some h →
 Ok (Ty.st SN.region) h →
 (0 ≤ g ∧ g < LN f) ∧ (∀ (i : Region), f[g.toNat]? = some i →
 Ok (Ty.st SN.region) i →
 (Bool.not (Bool.and (decide (h.from_ = i.from_)) (Bool.and (decide (h.to = i.to)) (Bool.and (decide (h.write = i.write)) (Bool.and (decide (h.run = i.run)) true)))) = true →
 false = true ∧ True) ∧ (Bool.not (Bool.and (decide (h.from_ = i.from_)) (Bool.and (decide (h.to = i.to)) (Bool.and (decide (h.write = i.write)) (Bool.and (decide (h.run = i.run)) true)))) = false →
 (0 ≤ g ∧ g < LN f) ∧ (∀ (j : Region), f[g.toNat]? = some j →
 Ok (Ty.st SN.region) j →
 (0 ≤ g ∧ g < LN f) ∧ (∀ (k : Region), f[g.toNat]? = some k →
 Ok (Ty.st SN.region) k →
 (decide (j.run = k.write) = true →
 false = true ∧ True) ∧ (decide (j.run = k.write) = false →
 (0 ≤ g ∧ g < LN f) ∧ (∀ (l : Region), f[g.toNat]? = some l →
 Ok (Ty.st SN.region) l →
 (0 ≤ g ∧ g < LN f) ∧ (∀ (m : Region), f[g.toNat]? = some m →
 Ok (Ty.st SN.region) m →
 (decide (l.to ≤ m.from_) = true →
 false = true ∧ True) ∧ (decide (l.to ≤ m.from_) = false →
 (decide (0 < g) = true →
 (0 ≤ g ∧ g < LN f) ∧ (∀ (n : Region), f[g.toNat]? = some n →
 Ok (Ty.st SN.region) n →
 i64 (g - 1) ∧ (0 ≤ g - 1 ∧ g - 1 < LN f) ∧ (∀ (o : Region), f[(g - 1).toNat]? = some o →
 Ok (Ty.st SN.region) o →
 (decide (n.from_ < o.to) = true →
 false = true ∧ True) ∧ (decide (n.from_ < o.to) = false →
 i64 (g + 1) ∧ (∃ (p : List Region), (∃ (q : Int), f = p ∧ f = p ∧ g + 1 = q ∧ (RG p ∧ 0 ≤ q ∧ q ≤ LN p) ∧ p.length - q.toNat < f.length - g.toNat)))))) ∧ (decide (0 < g) = false →
 i64 (g + 1) ∧ (∃ (r : List Region), (∃ (s : Int), f = r ∧ f = r ∧ g + 1 = s ∧ (RG r ∧ 0 ≤ s ∧ s ≤ LN r) ∧ r.length - s.toNat < f.length - g.toNat))))))))))))) ∧ (decide (g < LN f) = false →
 f.length ≤ 9223372036854775807 →
 (decide (LN f ≤ 3) = true →
 true = true ∧ True) ∧ (decide (LN f ≤ 3) = false →
 false = true ∧ True)))))))))) := by kernel_rfl
theorem det_laws_FnRegionsOf : C_laws_FnRegionsOf.det = true → ∀ x, (C_laws_FnRegionsOf.out x).Det := fun _ _ => Det.vc'
theorem ok_laws_FnRegionsOf : ConOK Try.prog 7 C_laws_FnRegionsOf := by
  refine con_q (l := L_laws_FnRegionsOf) ⟨⟨ok_spec_DrawRegionsOf, det_spec_DrawRegionsOf⟩, ⟨⟨ok_impl_RegionsOf, det_impl_RegionsOf⟩, ⟨⟨ok_spec_RegionsOf, det_spec_RegionsOf⟩, ⟨⟨ok_laws_alive, det_laws_alive⟩, trivial⟩⟩⟩⟩ Try.func7 rfl (by decide) (by kernel_rfl) rfl an_laws_FnRegionsOf fun x ho hx => ?_
  obtain ⟨c, ⟨⟩⟩ := x
  refine Keeps.of (vc_laws_FnRegionsOf c) ?_
  revert c ho hx
  show ∀ (c : List (Int)), _
  intro c ho hx
  dsimp only [C_laws_FnRegionsOf, okPTL, okPT, Ok, Ty.cells, SN.cells, OkL, OkC, okI, ci, cb, cs, cl] at ho
  dsimp only [C_laws_FnRegionsOf, vc, v1, decB, SR.pre] at hx
  (try delta i64 LN); simp only [DRt, ex_sect2]; (repeat' first | apply And.intro | (intro x hq _; replace hq := List.mem_of_getElem? hq; simp only [List.mem_cons, List.not_mem_nil, or_false] at hq) | intro _); all_goals (try omega)
  all_goals first
    | omega
    | (have := objsA_sz (by assumption) (by omega); omega)
    | exact RG_mk _ _
    | exact RG_ne (by assumption) (by assumption) (by assumption)
    | exact RG_rw (by assumption) (by assumption) (by assumption) (by assumption) (by assumption)
    | exact RG_ft (by assumption) (by assumption) (by assumption) (by assumption) (by assumption)
    | exact RG_pr (by assumption) (by assumption) (by assumption) (by assumption) (by assumption)
    | exact RG_3 (by assumption) (by assumption)
    | skip

theorem rd_u : Reads Try.prog 5 [.u] := reads_u8 Try.underlying5
theorem rd_uL : Reads Try.prog 22 [(.list .u)] := reads_slice (t' := .u) Try.underlying22 (by kernel_rfl) (by decide) rd_u
set_option maxRecDepth 100000 in
theorem lifted_FnRegionsOf (os : Os) (started : os.Started) (H : Type) (enc : TypeId × Value → H) :
    ReturnsInHanded {} Try.checked os 7 .any (Rows.fnRegionsOfSpec.pre6 enc Try.prog Try.f7 Rows.fnRegionsOfRow.domain false) (Rows.fnRegionsOfSpec.post enc Try.prog Try.f7 false true false false) := by
  refine returnsInHanded_of_change (C := Try.checked) head_own started (by kernel_rfl) Try.func7
    (ChangeSpec.witness6 (enc := enc) (C := Try.checked) false ⟨#[], #[.slice none 0 0], []⟩ 8 (by kernel_rfl) (by kernel_rfl) (by kernel_rfl) (by kernel_rfl)) ?_
  intro W base args ds gs before hval0 hW _ _
  have hval : ∀ (j : Nat) t v, Try.f7.params[j]? = some t → args[j]? = some v → Value.okWide Try.prog W .any base t v := hval0
  have hW' := hW
  obtain ⟨p, q, hA0, hV, rfl, hfz, hnd⟩ := hW
  have hA : DataW.TrodAll enc Try.prog W 0 (fun _ => true) true Try.f7.params.toList args.toList ds p := hA0
  rw [Try.params7] at hA hval
  obtain ⟨v0, vs0, d0, ds0, p0, q0, hargs, rfl, rfl, h0, r0⟩ := trodAll_cons hA
  obtain ⟨rfl, rfl, rfl⟩ := trodAll_nil r0
  obtain rfl : args = #[v0] := by cases args; simp_all
  obtain ⟨rfl, rfl⟩ := trodVars_none hV
  have k0 := h0
  obtain ⟨x0, g0⟩ := open_slice1 Try.underlying22 rd_uL (hval 0 22 v0 rfl rfl) h0
  clear hA0 hval0 hval
  refine (law_calls ok_laws_FnRegionsOf (x0, ()) rfl rfl (W := W) (vals := [v0]) ⟨g0, trivial⟩).mono fun e W' ⟨he, bel⟩ => ?_
  subst he
  exact ⟨_, rfl, _, _, _, [], _, [], hW', trodAll_mk1 (shut_bool Try.underlying4 _), (trodAll_cons_mk (Below.trod head_laid (by kernel_rfl) (of_decide_eq_true (by kernel_rfl)) k0 bel (trod_lt_ k0)) trodAll_mk0), rfl, bel.frame _, fun h => by cases h⟩

theorem over_FnRegionsOf : Rows.fnRegionsOfRow.holds Try.pinned (OpenSpec.ofChange Rows.fnRegionsOfSpec) :=
  OpenClaim.holds_of_wide 7 Try.f7 rfl rfl rfl rfl rfl rfl rfl ⟨rfl, rfl, rfl, rfl, rfl⟩ rfl rfl rfl rfl rfl (by kernel_rfl) Try.func7 (joined_of head_laid head_rowed head_stops head_stopk head_heard head_enter (show (Rows.fnRegionsOfRow.lifted == Try.prog.liftsFinal) = true by rw [head_final]; rfl) (show (Try.prog.make == some Rows.fnRegionsOfRow.make) = true by rw [head_make]; rfl) (by kernel_rfl))
    (of_decide_eq_true (by kernel_rfl)) (by unfold Func.isWrapper; first | (rw [if_pos (by decide +kernel)]; kernel_rfl) | (rw [if_neg (by decide +kernel)]; exact ⟨rfl, rfl⟩))
    (fun os started H enc _ => lifted_FnRegionsOf os started H enc)

theorem proved_FnRegionsOf : Rows.FnRegionsOfSaid := over_FnRegionsOf
#print axioms proved_FnRegionsOf

end Go.Proofs.Ytignicccfjdiiaa
