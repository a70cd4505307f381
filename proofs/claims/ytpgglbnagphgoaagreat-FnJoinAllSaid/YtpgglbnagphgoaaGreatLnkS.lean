/- Places of symbols: both packages keep the same contracts. -/
import Derived.Test.YtpgglbnagphgoaaGreatLnkDS
import Derived.Test.YtpgglbnagphgoaaGreatLayS
import Derived.Test.YtpgglbnagphgoaaGreatResS
import Derived.Test.YtpgglbnagphgoaaGreatFixAS
set_option linter.unusedVariables false
set_option linter.unusedSimpArgs false
set_option maxRecDepth 200000
set_option maxHeartbeats 4000000
namespace Go.Proofs.YtpgglbnagphgoaaGreat
open Go Go.RowKit


def optR (o : Option Int) : SR := .ret { val := .tup [(false, [.c (ci (o.getD 0))]), (false, [.c (cb o.isSome)])] }
def C_impl_layout_placeOf : Con := { ps := [.ro (.st .layout), .ro (.list (.st .obj)), .ro (.st .given)], out := fun x => let d : Layout := x.1; let l : List (Objt) := x.2.1; let g : Given := x.2.2.1; .req (isPl d.places l ∧ In l g) (vc .i (plV d.places l g)), det := true }
abbrev L_impl_layout_placeOf : List (Nat × Con) := []
def G_impl_layout_placeOf : Cfg := GK L_impl_layout_placeOf
def an_impl_layout_placeOf : PTL C_impl_layout_placeOf.ps → Nat → Option Ann := fun _ _ => none
theorem vc_impl_layout_placeOf (d : Layout) (l : List (Objt)) (g : Given) : (KP Tryz.f82 G_impl_layout_placeOf C_impl_layout_placeOf an_impl_layout_placeOf (d, l, g, ())) = ((0 ≤ g.in_ ∧ g.in_ < LN l) ∧ (∀ (a : Objt), l[g.in_.toNat]? = some a →
 Ok (Ty.st SN.obj) a →
 (0 ≤ g.at_ ∧ g.at_ < LN a.syms) ∧ (∀ (b : Sym), a.syms[g.at_.toNat]? = some b →
 Ok (Ty.st SN.sym) b →
 (decide (b.wher = (- (2 : Int))) = true →
 b.value = plV d.places l g ∧ True) ∧ (decide (b.wher = (- (2 : Int))) = false →
 (0 ≤ g.in_ ∧ g.in_ < LN d.places) ∧ (∀ (c : List Int), d.places[g.in_.toNat]? = some c →
 Ok (Ty.list (Ty.int IntKind.i64)) c →
 (0 ≤ b.wher ∧ b.wher < LN c) ∧ (∀ (e : Int), c[b.wher.toNat]? = some e →
 Ok (Ty.int IntKind.i64) e →
 i64 (e + b.value) ∧ e + b.value = plV d.places l g ∧ True)))))) := by kernel_rfl
theorem det_impl_layout_placeOf : C_impl_layout_placeOf.det = true → ∀ x, (C_impl_layout_placeOf.out x).Det := fun _ x => by simp only [C_impl_layout_placeOf]; repeat (first | exact Det.ret _ | exact Det.vc' | apply Det.req)
theorem ok_impl_layout_placeOf : ConOK Tryz.prog 82 C_impl_layout_placeOf := by
 refine con_q (l := L_impl_layout_placeOf) trivial Tryz.func82 rfl (by decide) (by kernel_rfl) rfl an_impl_layout_placeOf fun x ho hx => ?_
 obtain ⟨d, l, g, ⟨⟩⟩ := x
 refine Keeps.of (vc_impl_layout_placeOf d l g) ?_
 revert d l g ho hx
 show ∀ (d : Layout) (l : List (Objt)) (g : Given), _
 intro d l g ho hx
 dsimp only [C_impl_layout_placeOf, okPTL, okPT, Ok, Ty.cells, SN.cells, OkL, OkC, okI, ci, cb, cs, cl] at ho
 dsimp only [C_impl_layout_placeOf, vc, v1, decB, SR.pre] at hx
 have h := plH hx.1.1 hx.1.2
 (try delta i64 LN); simp +contextual only [VBt]; (repeat' first | intro _ | apply And.intro); all_goals (try omega)
 all_goals (try grind)
def C_impl_layout_symbolPlace : Con := { ps := [.ro (.st .layout), .ro (.list (.st .obj)), .ro .i, .ro .i], out := fun x => let d : Layout := x.1; let l : List (Objt) := x.2.1; let k : Int := x.2.2.1; let j : Int := x.2.2.2.1; .req (isPl d.places l ∧ inS l k j = true) (optR (syV d.places l k j)), det := true }
abbrev L_impl_layout_symbolPlace : List (Nat × Con) := [(82, C_impl_layout_placeOf), (48, C_impl_findName)]
def G_impl_layout_symbolPlace : Cfg := GK L_impl_layout_symbolPlace
def an_impl_layout_symbolPlace : PTL C_impl_layout_symbolPlace.ps → Nat → Option Ann := fun _ _ => none
theorem vc_impl_layout_symbolPlace (d : Layout) (l : List (Objt)) (k : Int) (j : Int) : (KP Tryz.f43 G_impl_layout_symbolPlace C_impl_layout_symbolPlace an_impl_layout_symbolPlace (d, l, k, j, ())) = ((0 ≤ k ∧ k < LN l) ∧ (∀ (a : Objt), l[k.toNat]? = some a →
 Ok (Ty.st SN.obj) a →
 (0 ≤ j ∧ j < LN a.syms) ∧ (∀ (b : Sym), a.syms[j.toNat]? = some b →
 Ok (Ty.st SN.sym) b →
 (decide (b.bind = 0) = true →
 (isPl d.places l ∧ In l (Given.mk k j)) ∧ plV d.places l (Given.mk k j) = @Option.getD Int (syV d.places l k j) (0 : Int) ∧ true = @Option.isSome Int (syV d.places l k j) ∧ True) ∧ (decide (b.bind = 0) = false →
 @List.all Objt l objB = true ∧ (Bool.not (@Option.isSome Given (fnd l b.name)) = true →
 0 = @Option.getD Int (syV d.places l k j) (0 : Int) ∧ decide (b.bind = 2) = @Option.isSome Int (syV d.places l k j) ∧ True) ∧ (Bool.not (@Option.isSome Given (fnd l b.name)) = false →
 (isPl d.places l ∧ In l (@Option.getD Given (fnd l b.name) (Given.mk 0 0))) ∧ plV d.places l (@Option.getD Given (fnd l b.name) (Given.mk 0 0)) = @Option.getD Int (syV d.places l k j) (0 : Int) ∧ true = @Option.isSome Int (syV d.places l k j) ∧ True))))) := by kernel_rfl
theorem det_impl_layout_symbolPlace : C_impl_layout_symbolPlace.det = true → ∀ x, (C_impl_layout_symbolPlace.out x).Det := fun _ x => by simp only [C_impl_layout_symbolPlace]; repeat (first | exact Det.ret _ | exact Det.vc' | apply Det.req)
theorem ok_impl_layout_symbolPlace : ConOK Tryz.prog 43 C_impl_layout_symbolPlace := by
 refine con_q (l := L_impl_layout_symbolPlace) ⟨⟨ok_impl_layout_placeOf, det_impl_layout_placeOf⟩, ⟨⟨ok_impl_findName, det_impl_findName⟩, trivial⟩⟩ Tryz.func43 rfl (by decide) (by kernel_rfl) rfl an_impl_layout_symbolPlace fun x ho hx => ?_
 obtain ⟨d, l, k, j, ⟨⟩⟩ := x
 refine Keeps.of (vc_impl_layout_symbolPlace d l k j) ?_
 revert d l k j ho hx
 show ∀ (d : Layout) (l : List (Objt)) (k : Int) (j : Int), _
 intro d l k j ho hx
 dsimp only [C_impl_layout_symbolPlace, okPTL, okPT, Ok, Ty.cells, SN.cells, OkL, OkC, okI, ci, cb, cs, cl] at ho
 dsimp only [C_impl_layout_symbolPlace, vc, v1, decB, SR.pre] at hx
 have h := syH hx.1.1 hx.1.2
 have ha := isPl_all hx.1.1
 (try delta i64 LN); simp +contextual only [VBt]; (repeat' first | intro _ | apply And.intro); all_goals (try omega)
 all_goals (try grind)
end Go.Proofs.YtpgglbnagphgoaaGreat
