/- Places of symbols: both packages keep the same contracts. -/
import Derived.Test.YtfdngmkmeeaeeaaGreatLnkDw
import Derived.Test.YtfdngmkmeeaeeaaGreatLayw
import Derived.Test.YtfdngmkmeeaeeaaGreatResw
import Derived.Test.YtfdngmkmeeaeeaaGreatFixAw
set_option linter.unusedVariables false
set_option linter.unusedSimpArgs false
set_option maxRecDepth 200000
set_option maxHeartbeats 4000000
namespace Go.Proofs.YtfdngmkmeeaeeaaGreat
open Go Go.RowKit


def optR (o : Option Int) : SR := .ret { val := .tup [(false, [.c (ci (o.getD 0))]), (false, [.c (cb o.isSome)])] }
def C_impl_layout_placeOf : Con := { ps := [.ro (.st .layout), .ro (.list (.st .obj)), .ro (.st .given)], out := fun x => let d : Layout := x.1; let l : List (Objt) := x.2.1; let g : Given := x.2.2.1; .req (isPl d.places l ∧ In l g) (vc .i (plV d.places l g)), det := true }
abbrev L_impl_layout_placeOf : List (Nat × Con) := []
def G_impl_layout_placeOf : Cfg := GK L_impl_layout_placeOf
def an_impl_layout_placeOf : PTL C_impl_layout_placeOf.ps → Nat → Option Ann := fun _ _ => none
theorem vc_impl_layout_placeOf (d : Layout) (l : List (Objt)) (g : Given) : (KP Tryz.f134 G_impl_layout_placeOf C_impl_layout_placeOf an_impl_layout_placeOf (d, l, g, ())) = ((0 ≤ g.in_ ∧ g.in_ < LN l) ∧ (∀ (a : Objt), l[g.in_.toNat]? = some a →
 Ok (Ty.st SN.obj) a →
 (0 ≤ g.at_ ∧ g.at_ < LN a.syms) ∧ (∀ (b : Sym), a.syms[g.at_.toNat]? = some b →
 Ok (Ty.st SN.sym) b →
 (decide (b.wher = (- (2 : Int))) = true →
 b.value = plV d.places l g ∧ True) ∧ (decide (b.wher = (- (2 : Int))) = false →
 (0 ≤ g.in_ ∧ g.in_ < LN d.places) ∧ (∀ (c : List Int), d.places[g.in_.toNat]? = some c →
 Ok (Ty.list (Ty.int IntKind.i64)) c →
 (0 ≤ b.wher ∧ b.wher < LN c) ∧ (∀ (e : Int), c[b.wher.toNat]? = some e →
 Ok (Ty.int IntKind.i64) e →
 i64 (e + b.value) ∧ e + b.value = plV d.places l g ∧ True)))))) := by kernel_rfl
theorem det_impl_layout_placeOf : C_impl_layout_placeOf.det = true → ∀ x, (C_impl_layout_placeOf.out x).Det := fun _ x => by simp only [C_impl_layout_placeOf]; repeat (first | exact Det.ret _ | exact Det.vc' | apply Det.req)
theorem ok_impl_layout_placeOf : ConOK Tryz.prog 134 C_impl_layout_placeOf := by
 refine con_q (l := L_impl_layout_placeOf) trivial Tryz.func134 rfl (by decide) (by kernel_rfl) rfl an_impl_layout_placeOf fun x ho hx => ?_
 obtain ⟨d, l, g, ⟨⟩⟩ := x
 refine Keeps.of (vc_impl_layout_placeOf d l g) ?_
 revert d l g ho hx
 show ∀ (d : Layout) (l : List (Objt)) (g : Given), _
 intro d l g ho hx
 dsimp only [C_impl_layout_placeOf, okPTL, okPT, Ok, Ty.cells, SN.cells, OkL, OkC, okI, ci, cb, cs, cl] at ho
 dsimp only [C_impl_layout_placeOf, vc, v1, decB, SR.pre] at hx
 have h := plH hx.1.1 hx.1.2
 (try delta i64 LN); simp +contextual only [VBt]; (repeat' first | intro _ | apply And.intro); all_goals (try omega)
 all_goals (try grind)
def C_spec_l13Value : Con := { ps := [.ro (.list (.st .obj)), .ro (.list (.list .i)), .ro .i, .ro .i], out := fun x => let l : List (Objt) := x.1; let pl : List (List (Int)) := x.2.1; let k : Int := x.2.2.1; let j : Int := x.2.2.2.1; .req (isPl pl l ∧ In l ⟨k, j⟩) (vc .i (plV pl l ⟨k, j⟩)), det := true }
abbrev L_spec_l13Value : List (Nat × Con) := []
def G_spec_l13Value : Cfg := GK L_spec_l13Value
def an_spec_l13Value : PTL C_spec_l13Value.ps → Nat → Option Ann := fun _ _ => none
theorem vc_spec_l13Value (l : List (Objt)) (pl : List (List (Int))) (k : Int) (j : Int) : (KP Tryz.f123 G_spec_l13Value C_spec_l13Value an_spec_l13Value (l, pl, k, j, ())) = ((0 ≤ k ∧ k < LN l) ∧ (∀ (a : Objt), l[k.toNat]? = some a →
 Ok (Ty.st SN.obj) a →
 (0 ≤ j ∧ j < LN a.syms) ∧ (∀ (b : Sym), a.syms[j.toNat]? = some b →
 Ok (Ty.st SN.sym) b →
 (decide (b.wher = (- (2 : Int))) = true →
 b.value = plV pl l (Given.mk k j) ∧ True) ∧ (decide (b.wher = (- (2 : Int))) = false →
 (0 ≤ k ∧ k < LN pl) ∧ (∀ (c : List Int), pl[k.toNat]? = some c →
 Ok (Ty.list (Ty.int IntKind.i64)) c →
 (0 ≤ b.wher ∧ b.wher < LN c) ∧ (∀ (d : Int), c[b.wher.toNat]? = some d →
 Ok (Ty.int IntKind.i64) d →
 i64 (d + b.value) ∧ d + b.value = plV pl l (Given.mk k j) ∧ True)))))) := by kernel_rfl
theorem det_spec_l13Value : C_spec_l13Value.det = true → ∀ x, (C_spec_l13Value.out x).Det := fun _ x => by simp only [C_spec_l13Value]; repeat (first | exact Det.ret _ | exact Det.vc' | apply Det.req)
theorem ok_spec_l13Value : ConOK Tryz.prog 123 C_spec_l13Value := by
 refine con_q (l := L_spec_l13Value) trivial Tryz.func123 rfl (by decide) (by kernel_rfl) rfl an_spec_l13Value fun x ho hx => ?_
 obtain ⟨l, pl, k, j, ⟨⟩⟩ := x
 refine Keeps.of (vc_spec_l13Value l pl k j) ?_
 revert l pl k j ho hx
 show ∀ (l : List (Objt)) (pl : List (List (Int))) (k : Int) (j : Int), _
 intro l pl k j ho hx
 dsimp only [C_spec_l13Value, okPTL, okPT, Ok, Ty.cells, SN.cells, OkL, OkC, okI, ci, cb, cs, cl] at ho
 dsimp only [C_spec_l13Value, vc, v1, decB, SR.pre] at hx
 have h := plH hx.1.1 hx.1.2
 (try delta i64 LN); simp +contextual only [VBt]; (repeat' first | intro _ | apply And.intro); all_goals (try omega)
 all_goals (try grind)
def C_impl_layout_symbolPlace : Con := { ps := [.ro (.st .layout), .ro (.list (.st .obj)), .ro .i, .ro .i], out := fun x => let d : Layout := x.1; let l : List (Objt) := x.2.1; let k : Int := x.2.2.1; let j : Int := x.2.2.2.1; .req (isPl d.places l ∧ inS l k j = true) (optR (syV d.places l k j)), det := true }
abbrev L_impl_layout_symbolPlace : List (Nat × Con) := [(134, C_impl_layout_placeOf), (133, C_impl_findName)]
def G_impl_layout_symbolPlace : Cfg := GK L_impl_layout_symbolPlace
def an_impl_layout_symbolPlace : PTL C_impl_layout_symbolPlace.ps → Nat → Option Ann := fun _ _ => none
theorem vc_impl_layout_symbolPlace (d : Layout) (l : List (Objt)) (k : Int) (j : Int) : (KP Tryz.f69 G_impl_layout_symbolPlace C_impl_layout_symbolPlace an_impl_layout_symbolPlace (d, l, k, j, ())) = ((0 ≤ k ∧ k < LN l) ∧ (∀ (a : Objt), l[k.toNat]? = some a →
 Ok (Ty.st SN.obj) a →
 (0 ≤ j ∧ j < LN a.syms) ∧ (∀ (b : Sym), a.syms[j.toNat]? = some b →
 Ok (Ty.st SN.sym) b →
 (decide (b.bind = 0) = true →
 (isPl d.places l ∧ In l (Given.mk k j)) ∧ plV d.places l (Given.mk k j) = @Option.getD Int (syV d.places l k j) (0 : Int) ∧ true = @Option.isSome Int (syV d.places l k j) ∧ True) ∧ (decide (b.bind = 0) = false →
 @List.all Objt l objB = true ∧ (Bool.not (@Option.isSome Given (fnd l b.name)) = true →
 0 = @Option.getD Int (syV d.places l k j) (0 : Int) ∧ decide (b.bind = 2) = @Option.isSome Int (syV d.places l k j) ∧ True) ∧ (Bool.not (@Option.isSome Given (fnd l b.name)) = false →
 (isPl d.places l ∧ In l (@Option.getD Given (fnd l b.name) (Given.mk 0 0))) ∧ plV d.places l (@Option.getD Given (fnd l b.name) (Given.mk 0 0)) = @Option.getD Int (syV d.places l k j) (0 : Int) ∧ true = @Option.isSome Int (syV d.places l k j) ∧ True))))) := by kernel_rfl
theorem det_impl_layout_symbolPlace : C_impl_layout_symbolPlace.det = true → ∀ x, (C_impl_layout_symbolPlace.out x).Det := fun _ x => by simp only [C_impl_layout_symbolPlace]; repeat (first | exact Det.ret _ | exact Det.vc' | apply Det.req)
theorem ok_impl_layout_symbolPlace : ConOK Tryz.prog 69 C_impl_layout_symbolPlace := by
 refine con_q (l := L_impl_layout_symbolPlace) ⟨⟨ok_impl_layout_placeOf, det_impl_layout_placeOf⟩, ⟨⟨ok_impl_findName, det_impl_findName⟩, trivial⟩⟩ Tryz.func69 rfl (by decide) (by kernel_rfl) rfl an_impl_layout_symbolPlace fun x ho hx => ?_
 obtain ⟨d, l, k, j, ⟨⟩⟩ := x
 refine Keeps.of (vc_impl_layout_symbolPlace d l k j) ?_
 revert d l k j ho hx
 show ∀ (d : Layout) (l : List (Objt)) (k : Int) (j : Int), _
 intro d l k j ho hx
 dsimp only [C_impl_layout_symbolPlace, okPTL, okPT, Ok, Ty.cells, SN.cells, OkL, OkC, okI, ci, cb, cs, cl] at ho
 dsimp only [C_impl_layout_symbolPlace, vc, v1, decB, SR.pre] at hx
 have h := syH hx.1.1 hx.1.2
 have ha := isPl_all hx.1.1
 (try delta i64 LN); simp +contextual only [VBt]; (repeat' first | intro _ | apply And.intro); all_goals (try omega)
 all_goals (try grind)
def C_spec_SymbolPlace : Con := { ps := [.ro (.list (.st .obj)), .ro .i, .ro .i, .ro .i], out := fun x => let l : List (Objt) := x.1; let b : Int := x.2.1; let k : Int := x.2.2.1; let j : Int := x.2.2.2.1; .req (l.length + sumI szOb l ≤ 1048576) (optR (syPl l b k j)), det := true }
abbrev L_spec_SymbolPlace : List (Nat × Con) := [(59, C_spec_PlaceSections), (117, C_spec_l1In), (123, C_spec_l13Value), (121, C_spec_l11Given)]
def G_spec_SymbolPlace : Cfg := GK L_spec_SymbolPlace
def an_spec_SymbolPlace : PTL C_spec_SymbolPlace.ps → Nat → Option Ann := fun _ _ => none
theorem vc_spec_SymbolPlace (l : List (Objt)) (b : Int) (k : Int) (j : Int) : (KP Tryz.f62 G_spec_SymbolPlace C_spec_SymbolPlace an_spec_SymbolPlace (l, b, k, j, ())) = (LN l + @sumI Objt szOb l ≤ 1048576 ∧ (Bool.not (layOk l b) = true →
 0 = @Option.getD Int (syPl l b k j) (0 : Int) ∧ false = @Option.isSome Int (syPl l b k j) ∧ True) ∧ (Bool.not (layOk l b) = false →
 l.length ≤ 9223372036854775807 →
 i64 (LN l - 1) ∧ (Bool.not (decide (0 ≤ k ∧ k ≤ LN l - 1)) = true →
 0 = @Option.getD Int (syPl l b k j) (0 : Int) ∧ false = @Option.isSome Int (syPl l b k j) ∧ True) ∧ (Bool.not (decide (0 ≤ k ∧ k ≤ LN l - 1)) = false →
 (0 ≤ k ∧ k < LN l) ∧ (∀ (a : Objt), l[k.toNat]? = some a →
 Ok (Ty.st SN.obj) a →
 a.syms.length ≤ 9223372036854775807 →
 i64 (LN a.syms - 1) ∧ (Bool.not (decide (0 ≤ j ∧ j ≤ LN a.syms - 1)) = true →
 0 = @Option.getD Int (syPl l b k j) (0 : Int) ∧ false = @Option.isSome Int (syPl l b k j) ∧ True) ∧ (Bool.not (decide (0 ≤ j ∧ j ≤ LN a.syms - 1)) = false →
 (0 ≤ k ∧ k < LN l) ∧ (∀ (c : Objt), l[k.toNat]? = some c →
 Ok (Ty.st SN.obj) c →
 (0 ≤ j ∧ j < LN c.syms) ∧ (∀ (d : Sym), c.syms[j.toNat]? = some d →
 Ok (Ty.st SN.sym) d →
 (decide (d.bind = 0) = true →
 (isPl (layout l b).places l ∧ In l (Given.mk k j)) ∧ plV (layout l b).places l (Given.mk k j) = @Option.getD Int (syPl l b k j) (0 : Int) ∧ true = @Option.isSome Int (syPl l b k j) ∧ True) ∧ (decide (d.bind = 0) = false →
 (@List.all Objt l objB = true ∧ l.length ≤ 1000) ∧ (Bool.not (@Option.isSome Given (fnd l d.name)) = true →
 0 = @Option.getD Int (syPl l b k j) (0 : Int) ∧ decide (d.bind = 2) = @Option.isSome Int (syPl l b k j) ∧ True) ∧ (Bool.not (@Option.isSome Given (fnd l d.name)) = false →
 (isPl (layout l b).places l ∧ In l (@Option.getD Given (fnd l d.name) (Given.mk 0 0))) ∧ plV (layout l b).places l (@Option.getD Given (fnd l d.name) (Given.mk 0 0)) = @Option.getD Int (syPl l b k j) (0 : Int) ∧ true = @Option.isSome Int (syPl l b k j) ∧ True))))))))) := by kernel_rfl
theorem det_spec_SymbolPlace : C_spec_SymbolPlace.det = true → ∀ x, (C_spec_SymbolPlace.out x).Det := fun _ x => by simp only [C_spec_SymbolPlace]; repeat (first | exact Det.ret _ | exact Det.vc' | apply Det.req)
theorem ok_spec_SymbolPlace : ConOK Tryz.prog 62 C_spec_SymbolPlace := by
 refine con_q (l := L_spec_SymbolPlace) ⟨⟨ok_spec_PlaceSections, det_spec_PlaceSections⟩, ⟨⟨ok_spec_l1In, det_spec_l1In⟩, ⟨⟨ok_spec_l13Value, det_spec_l13Value⟩, ⟨⟨ok_spec_l11Given, det_spec_l11Given⟩, trivial⟩⟩⟩⟩ Tryz.func62 rfl (by decide) (by kernel_rfl) rfl an_spec_SymbolPlace fun x ho hx => ?_
 obtain ⟨l, b, k, j, ⟨⟩⟩ := x
 refine Keeps.of (vc_spec_SymbolPlace l b k j) ?_
 revert l b k j ho hx
 show ∀ (l : List (Objt)) (b : Int) (k : Int) (j : Int), _
 intro l b k j ho hx
 dsimp only [C_spec_SymbolPlace, okPTL, okPT, Ok, Ty.cells, SN.cells, OkL, OkC, okI, ci, cb, cs, cl] at ho
 dsimp only [C_spec_SymbolPlace, vc, v1, decB, SR.pre] at hx
 have h1 := @isPl_mk l b
 have h2 := @syPl_yes l b k j
 have h3 := @syPl_no1 l b k j
 have h4 := @syPl_no2 l b k j
 have h5 := @inS_no1 l k j
 have h6 := @inS_no2 l k j
 have h7 := @inS_yes l k j
 have h8 := fun h h' => @syH (layout l b).places l k j h h'
 have h9 := @isPl_all (layout l b).places l
 have ha := @lay_all l b
 (try delta i64 LN); simp +contextual only [VBt]; (repeat' first | intro _ | apply And.intro); all_goals (try omega)
 all_goals (try grind)
end Go.Proofs.YtfdngmkmeeaeeaaGreat
