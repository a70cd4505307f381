/- Places of symbols: both packages keep the same contracts. -/
import Derived.Test.YtignicccfjdiiaaLnkD
import Derived.Test.YtignicccfjdiiaaLay
import Derived.Test.YtignicccfjdiiaaRes
import Derived.Test.YtignicccfjdiiaaFixA
set_option linter.unusedVariables false
set_option linter.unusedSimpArgs false
set_option maxRecDepth 200000
set_option maxHeartbeats 4000000
namespace Go.Proofs.Ytignicccfjdiiaa
open Go Go.RowKit


def optR (o : Option Int) : SR := .ret { val := .tup [(false, [.c (ci (o.getD 0))]), (false, [.c (cb o.isSome)])] }
def C_impl_layout_placeOf : Con := { ps := [.ro (.st .layout), .ro (.list (.st .obj)), .ro (.st .given)], out := fun x => let d : Layout := x.1; let l : List (Objt) := x.2.1; let g : Given := x.2.2.1; .req (isPl d.places l ∧ In l g) (vc .i (plV d.places l g)), det := true }
abbrev L_impl_layout_placeOf : List (Nat × Con) := []
def G_impl_layout_placeOf : Cfg := GK L_impl_layout_placeOf
def an_impl_layout_placeOf : PTL C_impl_layout_placeOf.ps → Nat → Option Ann := fun _ _ => none
theorem vc_impl_layout_placeOf (d : Layout) (l : List (Objt)) (g : Given) : (KP Try.f88 G_impl_layout_placeOf C_impl_layout_placeOf an_impl_layout_placeOf (d, l, g, ())) = ((0 ≤ g.in_ ∧ g.in_ < LN l) ∧ (∀ (a : Objt), l[g.in_.toNat]? = some a →
 Ok (Ty.st SN.obj) a →
 (0 ≤ g.at_ ∧ g.at_ < LN a.syms) ∧ (∀ (b : Sym), a.syms[g.at_.toNat]? = some b →
 Ok (Ty.st SN.sym) b →
 (decide (b.wher = (- (2 : Int))) = true →
 b.value = plV d.places l g ∧ True) ∧ (decide (b.wher = (- (2 : Int))) = false →
 (0 ≤ g.in_ ∧ g.in_ < LN d.places) ∧ (∀ (c : List Int), d.places[g.in_.toNat]? = some c →
 Ok (Ty.list (Ty.int IntKind.i64)) c →
 (0 ≤ b.wher ∧ b.wher < LN c) ∧ (∀ (e : Int), c[b.wher.toNat]? = some e →
 Ok (Ty.int IntKind.i64) e →
 i64 (e + b.value) ∧ e + b.value = plV d.places l g ∧ True)))))) := by kernel_rfl
theorem det_impl_layout_placeOf : C_impl_layout_placeOf.det = true → ∀ x, (C_impl_layout_placeOf.out x).Det := fun _ x => by simp only [C_impl_layout_placeOf]; repeat (first | exact Det.ret _ | exact Det.vc' | apply Det.req)
theorem ok_impl_layout_placeOf : ConOK Try.prog 88 C_impl_layout_placeOf := by
  refine con_q (l := L_impl_layout_placeOf) trivial Try.func88 rfl (by decide) (by kernel_rfl) rfl an_impl_layout_placeOf fun x ho hx => ?_
  obtain ⟨d, l, g, ⟨⟩⟩ := x
  refine Keeps.of (vc_impl_layout_placeOf d l g) ?_
  revert d l g ho hx
  show ∀ (d : Layout) (l : List (Objt)) (g : Given), _
  intro d l g ho hx
  dsimp only [C_impl_layout_placeOf, okPTL, okPT, Ok, Ty.cells, SN.cells, OkL, OkC, okI, ci, cb, cs, cl] at ho
  dsimp only [C_impl_layout_placeOf, vc, v1, decB, SR.pre] at hx
  have h := plH hx.1.1 hx.1.2
  (try delta i64 LN); simp +contextual only [VBt]; (repeat' first | intro _ | apply And.intro); all_goals (try omega)
  all_goals (try grind)
def C_spec_l13Value : Con := { ps := [.ro (.list (.st .obj)), .ro (.list (.list .i)), .ro .i, .ro .i], out := fun x => let l : List (Objt) := x.1; let pl : List (List (Int)) := x.2.1; let k : Int := x.2.2.1; let j : Int := x.2.2.2.1; .req (isPl pl l ∧ In l ⟨k, j⟩) (vc .i (plV pl l ⟨k, j⟩)), det := true }
abbrev L_spec_l13Value : List (Nat × Con) := []
def G_spec_l13Value : Cfg := GK L_spec_l13Value
def an_spec_l13Value : PTL C_spec_l13Value.ps → Nat → Option Ann := fun _ _ => none
theorem vc_spec_l13Value (l : List (Objt)) (pl : List (List (Int))) (k : Int) (j : Int) : (KP Try.f82 G_spec_l13Value C_spec_l13Value an_spec_l13Value (l, pl, k, j, ())) = ((0 ≤ k ∧ k < LN l) ∧ (∀ (a : Objt), l[k.toNat]? = some a →
 Ok (Ty.st SN.obj) a →
 (0 ≤ j ∧ j < LN a.syms) ∧ (∀ (b : Sym), a.syms[j.toNat]? = some b →
 Ok (Ty.st SN.sym) b →
 (decide (b.wher = (- (2 : Int))) = true →
 b.value = plV pl l (Given.mk k j) ∧ True) ∧ (decide (b.wher = (- (2 : Int))) = false →
 (0 ≤ k ∧ k < LN pl) ∧ (∀ (c : List Int), pl[k.toNat]? = some c →
 Ok (Ty.list (Ty.int IntKind.i64)) c →
 (0 ≤ b.wher ∧ b.wher < LN c) ∧ (∀ (d : Int), c[b.wher.toNat]? = some d →
 Ok (Ty.int IntKind.i64) d →
 i64 (d + b.value) ∧ d + b.value = plV pl l (Given.mk k j) ∧ True)))))) := by kernel_rfl
theorem det_spec_l13Value : C_spec_l13Value.det = true → ∀ x, (C_spec_l13Value.out x).Det := fun _ x => by simp only [C_spec_l13Value]; repeat (first | exact Det.ret _ | exact Det.vc' | apply Det.req)
theorem ok_spec_l13Value : ConOK Try.prog 82 C_spec_l13Value := by
  refine con_q (l := L_spec_l13Value) trivial Try.func82 rfl (by decide) (by kernel_rfl) rfl an_spec_l13Value fun x ho hx => ?_
  obtain ⟨l, pl, k, j, ⟨⟩⟩ := x
  refine Keeps.of (vc_spec_l13Value l pl k j) ?_
  revert l pl k j ho hx
  show ∀ (l : List (Objt)) (pl : List (List (Int))) (k : Int) (j : Int), _
  intro l pl k j ho hx
  dsimp only [C_spec_l13Value, okPTL, okPT, Ok, Ty.cells, SN.cells, OkL, OkC, okI, ci, cb, cs, cl] at ho
  dsimp only [C_spec_l13Value, vc, v1, decB, SR.pre] at hx
  have h := plH hx.1.1 hx.1.2
  (try delta i64 LN); simp +contextual only [VBt]; (repeat' first | intro _ | apply And.intro); all_goals (try omega)
  all_goals (try grind)
def C_impl_layout_symbolPlace : Con := { ps := [.ro (.st .layout), .ro (.list (.st .obj)), .ro .i, .ro .i], out := fun x => let d : Layout := x.1; let l : List (Objt) := x.2.1; let k : Int := x.2.2.1; let j : Int := x.2.2.2.1; .req (isPl d.places l ∧ inS l k j = true) (optR (syV d.places l k j)), det := true }
abbrev L_impl_layout_symbolPlace : List (Nat × Con) := [(88, C_impl_layout_placeOf), (87, C_impl_findName)]
def G_impl_layout_symbolPlace : Cfg := GK L_impl_layout_symbolPlace
def an_impl_layout_symbolPlace : PTL C_impl_layout_symbolPlace.ps → Nat → Option Ann := fun _ _ => none
theorem vc_impl_layout_symbolPlace (d : Layout) (l : List (Objt)) (k : Int) (j : Int) : (KP Try.f81 G_impl_layout_symbolPlace C_impl_layout_symbolPlace an_impl_layout_symbolPlace (d, l, k, j, ())) = ((0 ≤ k ∧ k < LN l) ∧ (∀ (a : Objt), l[k.toNat]? = some a →
 Ok (Ty.st SN.obj) a →
 (0 ≤ j ∧ j < LN a.syms) ∧ (∀ (b : Sym), a.syms[j.toNat]? = some b →
 Ok (Ty.st SN.sym) b →
 (decide (b.bind = 0) = true →
 (isPl d.places l ∧ In l (Given.mk k j)) ∧ plV d.places l (Given.mk k j) = @Option.getD Int (syV d.places l k j) (0 : Int) ∧ true = @Option.isSome Int (syV d.places l k j) ∧ True) ∧ (decide (b.bind = 0) = false →
 @List.all Objt l objB = true ∧ (Bool.not (@Option.isSome Given (fnd l b.name)) = true →
 0 = @Option.getD Int (syV d.places l k j) (0 : Int) ∧ decide (b.bind = 2) = @Option.isSome Int (syV d.places l k j) ∧ True) ∧ (Bool.not (@Option.isSome Given (fnd l b.name)) = false →
 (isPl d.places l ∧ In l (@Option.getD Given (fnd l b.name) (Given.mk 0 0))) ∧ plV d.places l (@Option.getD Given (fnd l b.name) (Given.mk 0 0)) = @Option.getD Int (syV d.places l k j) (0 : Int) ∧ true = @Option.isSome Int (syV d.places l k j) ∧ True))))) := by kernel_rfl
theorem det_impl_layout_symbolPlace : C_impl_layout_symbolPlace.det = true → ∀ x, (C_impl_layout_symbolPlace.out x).Det := fun _ x => by simp only [C_impl_layout_symbolPlace]; repeat (first | exact Det.ret _ | exact Det.vc' | apply Det.req)
theorem ok_impl_layout_symbolPlace : ConOK Try.prog 81 C_impl_layout_symbolPlace := by
  refine con_q (l := L_impl_layout_symbolPlace) ⟨⟨ok_impl_layout_placeOf, det_impl_layout_placeOf⟩, ⟨⟨ok_impl_findName, det_impl_findName⟩, trivial⟩⟩ Try.func81 rfl (by decide) (by kernel_rfl) rfl an_impl_layout_symbolPlace fun x ho hx => ?_
  obtain ⟨d, l, k, j, ⟨⟩⟩ := x
  refine Keeps.of (vc_impl_layout_symbolPlace d l k j) ?_
  revert d l k j ho hx
  show ∀ (d : Layout) (l : List (Objt)) (k : Int) (j : Int), _
  intro d l k j ho hx
  dsimp only [C_impl_layout_symbolPlace, okPTL, okPT, Ok, Ty.cells, SN.cells, OkL, OkC, okI, ci, cb, cs, cl] at ho
  dsimp only [C_impl_layout_symbolPlace, vc, v1, decB, SR.pre] at hx
  have h := syH hx.1.1 hx.1.2
  have ha := isPl_all hx.1.1
  (try delta i64 LN); simp +contextual only [VBt]; (repeat' first | intro _ | apply And.intro); all_goals (try omega)
  all_goals (try grind)
def C_impl_SymbolPlace : Con := { ps := [.ro (.list (.st .obj)), .ro .i, .ro .i, .ro .i], out := fun x => let l : List (Objt) := x.1; let b : Int := x.2.1; let k : Int := x.2.2.1; let j : Int := x.2.2.2.1; optR (syPl l b k j), det := true }
abbrev L_impl_SymbolPlace : List (Nat × Con) := [(71, C_impl_layoutOf), (80, C_impl_within), (81, C_impl_layout_symbolPlace)]
def G_impl_SymbolPlace : Cfg := GK L_impl_SymbolPlace
def an_impl_SymbolPlace : PTL C_impl_SymbolPlace.ps → Nat → Option Ann := fun _ _ => none
theorem vc_impl_SymbolPlace (l : List (Objt)) (b : Int) (k : Int) (j : Int) : (KP Try.f34 G_impl_SymbolPlace C_impl_SymbolPlace an_impl_SymbolPlace (l, b, k, j, ())) = ((Bool.not (layOk l b) = true →
 0 = @Option.getD Int (syPl l b k j) (0 : Int) ∧ false = @Option.isSome Int (syPl l b k j) ∧ True) ∧ (Bool.not (layOk l b) = false →
 l.length ≤ 9223372036854775807 →
 i64 (LN l - 1) ∧ (Bool.not (decide (0 ≤ k ∧ k ≤ LN l - 1)) = true →
 0 = @Option.getD Int (syPl l b k j) (0 : Int) ∧ false = @Option.isSome Int (syPl l b k j) ∧ True) ∧ (Bool.not (decide (0 ≤ k ∧ k ≤ LN l - 1)) = false →
 (0 ≤ k ∧ k < LN l) ∧ (∀ (a : Objt), l[k.toNat]? = some a →
 Ok (Ty.st SN.obj) a →
 a.syms.length ≤ 9223372036854775807 →
 i64 (LN a.syms - 1) ∧ (Bool.not (decide (0 ≤ j ∧ j ≤ LN a.syms - 1)) = true →
 0 = @Option.getD Int (syPl l b k j) (0 : Int) ∧ false = @Option.isSome Int (syPl l b k j) ∧ True) ∧ (Bool.not (decide (0 ≤ j ∧ j ≤ LN a.syms - 1)) = false →
 (isPl (layout l b).places l ∧ inS l k j = true) ∧ @Option.getD Int (syV (layout l b).places l k j) (0 : Int) = @Option.getD Int (syPl l b k j) (0 : Int) ∧ @Option.isSome Int (syV (layout l b).places l k j) = @Option.isSome Int (syPl l b k j) ∧ True))))) := by kernel_rfl
theorem det_impl_SymbolPlace : C_impl_SymbolPlace.det = true → ∀ x, (C_impl_SymbolPlace.out x).Det := fun _ _ => Det.ret _
theorem ok_impl_SymbolPlace : ConOK Try.prog 34 C_impl_SymbolPlace := by
  refine con_q (l := L_impl_SymbolPlace) ⟨⟨ok_impl_layoutOf, det_impl_layoutOf⟩, ⟨⟨ok_impl_within, det_impl_within⟩, ⟨⟨ok_impl_layout_symbolPlace, det_impl_layout_symbolPlace⟩, trivial⟩⟩⟩ Try.func34 rfl (by decide) (by kernel_rfl) rfl an_impl_SymbolPlace fun x ho hx => ?_
  obtain ⟨l, b, k, j, ⟨⟩⟩ := x
  refine Keeps.of (vc_impl_SymbolPlace l b k j) ?_
  revert l b k j ho hx
  show ∀ (l : List (Objt)) (b : Int) (k : Int) (j : Int), _
  intro l b k j ho hx
  dsimp only [C_impl_SymbolPlace, okPTL, okPT, Ok, Ty.cells, SN.cells, OkL, OkC, okI, ci, cb, cs, cl] at ho
  dsimp only [C_impl_SymbolPlace, vc, v1, decB, SR.pre] at hx
  have h1 := @isPl_mk l b
  have h2 := @syPl_yes l b k j
  have h3 := @syPl_no1 l b k j
  have h4 := @syPl_no2 l b k j
  have h5 := @inS_no1 l k j
  have h6 := @inS_no2 l k j
  have h7 := @inS_yes l k j
  (try delta i64 LN); simp +contextual only [VBt]; (repeat' first | intro _ | apply And.intro); all_goals (try omega)
  all_goals (try grind)
def C_spec_SymbolPlace : Con := { ps := [.ro (.list (.st .obj)), .ro .i, .ro .i, .ro .i], out := fun x => let l : List (Objt) := x.1; let b : Int := x.2.1; let k : Int := x.2.2.1; let j : Int := x.2.2.2.1; .req (l.length + sumI szOb l ≤ 1048576) (optR (syPl l b k j)), det := true }
abbrev L_spec_SymbolPlace : List (Nat × Con) := [(24, C_spec_PlaceSections), (75, C_spec_l1In), (82, C_spec_l13Value), (83, C_spec_l11Given)]
def G_spec_SymbolPlace : Cfg := GK L_spec_SymbolPlace
def an_spec_SymbolPlace : PTL C_spec_SymbolPlace.ps → Nat → Option Ann := fun _ _ => none
theorem vc_spec_SymbolPlace (l : List (Objt)) (b : Int) (k : Int) (j : Int) : (KP Try.f35 G_spec_SymbolPlace C_spec_SymbolPlace an_spec_SymbolPlace (l, b, k, j, ())) = (LN l + @sumI Objt szOb l ≤ 1048576 ∧ (Bool.not (layOk l b) = true →
 0 = @Option.getD Int (syPl l b k j) (0 : Int) ∧ false = @Option.isSome Int (syPl l b k j) ∧ True) ∧ (Bool.not (layOk l b) = false →
 l.length ≤ 9223372036854775807 →
 i64 (LN l - 1) ∧ (Bool.not (decide (0 ≤ k ∧ k ≤ LN l - 1)) = true →
 0 = @Option.getD Int (syPl l b k j) (0 : Int) ∧ false = @Option.isSome Int (syPl l b k j) ∧ True) ∧ (Bool.not (decide (0 ≤ k ∧ k ≤ LN l - 1)) = false →
 (0 ≤ k ∧ k < LN l) ∧ (∀ (a : Objt), l[k.toNat]? = some a →
 Ok (Ty.st SN.obj) a →
 a.syms.length ≤ 9223372036854775807 →
 i64 (LN a.syms - 1) ∧ (Bool.not (decide (0 ≤ j ∧ j ≤ LN a.syms - 1)) = true →
 0 = @Option.getD Int (syPl l b k j) (0 : Int) ∧ false = @Option.isSome Int (syPl l b k j) ∧ True) ∧ (Bool.not (decide (0 ≤ j ∧ j ≤ LN a.syms - 1)) = false →
 (0 ≤ k ∧ k < LN l) ∧ (∀ (c : Objt), l[k.toNat]? = some c →
 Ok (Ty.st SN.obj) c →
 (0 ≤ j ∧ j < LN c.syms) ∧ (∀ (d : Sym), c.syms[j.toNat]? = some d →
 Ok (Ty.st SN.sym) d →
 (decide (d.bind = 0) = true →
 (isPl (layout l b).places l ∧ In l (Given.mk k j)) ∧ plV (layout l b).places l (Given.mk k j) = @Option.getD Int (syPl l b k j) (0 : Int) ∧ true = @Option.isSome Int (syPl l b k j) ∧ True) ∧ (decide (d.bind = 0) = false →
 (@List.all Objt l objB = true ∧ l.length ≤ 1000) ∧ (Bool.not (@Option.isSome Given (fnd l d.name)) = true →
 0 = @Option.getD Int (syPl l b k j) (0 : Int) ∧ decide (d.bind = 2) = @Option.isSome Int (syPl l b k j) ∧ True) ∧ (Bool.not (@Option.isSome Given (fnd l d.name)) = false →
 (isPl (layout l b).places l ∧ In l (@Option.getD Given (fnd l d.name) (Given.mk 0 0))) ∧ plV (layout l b).places l (@Option.getD Given (fnd l d.name) (Given.mk 0 0)) = @Option.getD Int (syPl l b k j) (0 : Int) ∧ true = @Option.isSome Int (syPl l b k j) ∧ True))))))))) := by kernel_rfl
theorem det_spec_SymbolPlace : C_spec_SymbolPlace.det = true → ∀ x, (C_spec_SymbolPlace.out x).Det := fun _ x => by simp only [C_spec_SymbolPlace]; repeat (first | exact Det.ret _ | exact Det.vc' | apply Det.req)
theorem ok_spec_SymbolPlace : ConOK Try.prog 35 C_spec_SymbolPlace := by
  refine con_q (l := L_spec_SymbolPlace) ⟨⟨ok_spec_PlaceSections, det_spec_PlaceSections⟩, ⟨⟨ok_spec_l1In, det_spec_l1In⟩, ⟨⟨ok_spec_l13Value, det_spec_l13Value⟩, ⟨⟨ok_spec_l11Given, det_spec_l11Given⟩, trivial⟩⟩⟩⟩ Try.func35 rfl (by decide) (by kernel_rfl) rfl an_spec_SymbolPlace fun x ho hx => ?_
  obtain ⟨l, b, k, j, ⟨⟩⟩ := x
  refine Keeps.of (vc_spec_SymbolPlace l b k j) ?_
  revert l b k j ho hx
  show ∀ (l : List (Objt)) (b : Int) (k : Int) (j : Int), _
  intro l b k j ho hx
  dsimp only [C_spec_SymbolPlace, okPTL, okPT, Ok, Ty.cells, SN.cells, OkL, OkC, okI, ci, cb, cs, cl] at ho
  dsimp only [C_spec_SymbolPlace, vc, v1, decB, SR.pre] at hx
  have h1 := @isPl_mk l b
  have h2 := @syPl_yes l b k j
  have h3 := @syPl_no1 l b k j
  have h4 := @syPl_no2 l b k j
  have h5 := @inS_no1 l k j
  have h6 := @inS_no2 l k j
  have h7 := @inS_yes l k j
  have h8 := fun h h' => @syH (layout l b).places l k j h h'
  have h9 := @isPl_all (layout l b).places l
  have ha := @lay_all l b
  (try delta i64 LN); simp +contextual only [VBt]; (repeat' first | intro _ | apply And.intro); all_goals (try omega)
  all_goals (try grind)
def C_impl_NamePlaces : Con := { ps := [.ro (.list (.st .obj)), .ro .i, .ro (.list .str)], out := fun x => let l : List (Objt) := x.1; let b : Int := x.2.1; let ns : List (ByteArray) := x.2.2.1; .req (ns.length ≤ 1048576) (newLB .i (nmP l b ns) (nmOk l b ns)), det := true }
abbrev L_impl_NamePlaces : List (Nat × Con) := [(71, C_impl_layoutOf), (87, C_impl_findName), (88, C_impl_layout_placeOf)]
def G_impl_NamePlaces : Cfg := GK L_impl_NamePlaces
def an_impl_NamePlaces : PTL C_impl_NamePlaces.ps → Nat → Option Ann := fun x kk_ => let l : List (Objt) := x.1; let b : Int := x.2.1; let ns : List (ByteArray) := x.2.2.1; if kk_ = 6 then some (.all (Int) fun i => .giv (layOk l b = true ∧ 0 ≤ i ∧ i ≤ ns.length ∧ nmAll l (ns.take i.toNat) = true) (.mk [(26, ai i), (8, aref 32), (10, asl 20), (0, al (.st .obj) l), (24, al .str ns), (25, ai (List.length ns))] [(32, bx (ast .layout (layout l b))), (20, .row (some 3) .i (nmV (layout l b).places l (ns.take i.toNat)) true)] ((ns.length - i.toNat)))) else none
theorem vc_impl_NamePlaces (l : List (Objt)) (b : Int) (ns : List (ByteArray)) : (KP Try.f37 G_impl_NamePlaces C_impl_NamePlaces an_impl_NamePlaces (l, b, ns, ())) = ((Bool.not (layOk l b) = true →
 false = nmOk l b ns ∧ ([] : List Int) = nmP l b ns ∧ True) ∧ (Bool.not (layOk l b) = false →
 ns.length ≤ 9223372036854775807 →
 (∃ (a : Int), 0 = a ∧ l = l ∧ ns = ns ∧ LN ns = LN ns ∧ (layout l b).places = (layout l b).places ∧ (layout l b).ends = (layout l b).ends ∧ ([] : List Int) = nmV (layout l b).places l (ns.take a.toNat) ∧ (layOk l b = true ∧ 0 ≤ a ∧ a ≤ LN ns ∧ nmAll l (ns.take a.toNat) = true) ∧ True) ∧ (∀ (c : Int), layOk l b = true ∧ 0 ≤ c ∧ c ≤ LN ns ∧ nmAll l (ns.take c.toNat) = true →
 (decide (c < LN ns) = true →
 (0 ≤ c ∧ c < LN ns) ∧ (∀ (d : ByteArray), ns[c.toNat]? = some d →
 Ok Ty.str d →
 @List.all Objt l objB = true ∧ (Bool.not (@Option.isSome Given (fnd l d)) = true →
 false = nmOk l b ns ∧ ([] : List Int) = nmP l b ns ∧ True) ∧ (Bool.not (@Option.isSome Given (fnd l d)) = false →
 (isPl (layout l b).places l ∧ In l (@Option.getD Given (fnd l d) (Given.mk 0 0))) ∧ (((nmV (layout l b).places l (ns.take c.toNat)).length + [plV (layout l b).places l (@Option.getD Given (fnd l d) (Given.mk 0 0))].length) * 8 ≤ 140737488355328 ∧ (nmV (layout l b).places l (ns.take c.toNat)).length + [plV (layout l b).places l (@Option.getD Given (fnd l d) (Given.mk 0 0))].length ≤ 1000000000000) ∧ i64 (c + 1) ∧ (∃ (e : Int), c + 1 = e ∧ l = l ∧ ns = ns ∧ LN ns = LN ns ∧ (layout l b).places = (layout l b).places ∧ (layout l b).ends = (layout l b).ends ∧ nmV (layout l b).places l (ns.take c.toNat) ++ [plV (layout l b).places l (@Option.getD Given (fnd l d) (Given.mk 0 0))] = nmV (layout l b).places l (ns.take e.toNat) ∧ (layOk l b = true ∧ 0 ≤ e ∧ e ≤ LN ns ∧ nmAll l (ns.take e.toNat) = true) ∧ ns.length - e.toNat < ns.length - c.toNat)))) ∧ (decide (c < LN ns) = false →
 true = nmOk l b ns ∧ nmV (layout l b).places l (ns.take c.toNat) = nmP l b ns ∧ True)))) := by kernel_rfl
theorem det_impl_NamePlaces : C_impl_NamePlaces.det = true → ∀ x, (C_impl_NamePlaces.out x).Det := fun _ x => by simp only [C_impl_NamePlaces]; repeat (first | exact Det.ret _ | exact Det.vc' | apply Det.req)
theorem ok_impl_NamePlaces : ConOK Try.prog 37 C_impl_NamePlaces := by
  refine con_q (l := L_impl_NamePlaces) ⟨⟨ok_impl_layoutOf, det_impl_layoutOf⟩, ⟨⟨ok_impl_findName, det_impl_findName⟩, ⟨⟨ok_impl_layout_placeOf, det_impl_layout_placeOf⟩, trivial⟩⟩⟩ Try.func37 rfl (by decide) (by kernel_rfl) rfl an_impl_NamePlaces fun x ho hx => ?_
  obtain ⟨l, b, ns, ⟨⟩⟩ := x
  refine Keeps.of (vc_impl_NamePlaces l b ns) ?_
  revert l b ns ho hx
  show ∀ (l : List (Objt)) (b : Int) (ns : List (ByteArray)), _
  intro l b ns ho hx
  dsimp only [C_impl_NamePlaces, okPTL, okPT, Ok, Ty.cells, SN.cells, OkL, OkC, okI, ci, cb, cs, cl] at ho
  dsimp only [C_impl_NamePlaces, vc, v1, decB, SR.pre] at hx
  have h1 := @isPl_mk l b
  have h2 := fun (h : layOk l b = true) => (lay_all h).1
  have h3 := fun k => @nmV_tlen (layout l b).places l ns k
  have h4 := @nmV_next (layout l b).places l ns
  have h5 := @nmAll_next l ns
  have h6 := @nmOk_no1 l b ns
  have h7 := @nmOk_no2 l b ns
  have h8 := @nmOk_yes l b ns
  (try delta i64 LN); simp +contextual only [VBt]; (repeat' first | intro _ | apply And.intro); all_goals (try omega)
  all_goals (try grind [nmAll_zero, nmV, fndH])
def C_spec_NamePlaces : Con := { ps := [.ro (.list (.st .obj)), .ro .i, .ro (.list .str)], out := fun x => let l : List (Objt) := x.1; let b : Int := x.2.1; let ns : List (ByteArray) := x.2.2.1; .req (ns.length ≤ 1048576 ∧ l.length + sumI szOb l ≤ 1048576) (newLB .i (nmP l b ns) (nmOk l b ns)), det := true }
abbrev L_spec_NamePlaces : List (Nat × Con) := [(24, C_spec_PlaceSections), (83, C_spec_l11Given), (82, C_spec_l13Value)]
def G_spec_NamePlaces : Cfg := GK L_spec_NamePlaces
def an_spec_NamePlaces : PTL C_spec_NamePlaces.ps → Nat → Option Ann := fun x kk_ => let l : List (Objt) := x.1; let b : Int := x.2.1; let ns : List (ByteArray) := x.2.2.1; if kk_ = 6 then some (.all (Int) fun i => .giv (layOk l b = true ∧ 0 ≤ i ∧ i ≤ ns.length ∧ nmAll l (ns.take i.toNat) = true) (.mk [(12, ai i), (9, al (.list .i) (layout l b).places), (8, asl 20), (0, al (.st .obj) l), (2, al .str ns)] [(20, .row (some 3) .i (nmV (layout l b).places l (ns.take i.toNat)) true)] ((ns.length - i.toNat)))) else none
theorem vc_spec_NamePlaces (l : List (Objt)) (b : Int) (ns : List (ByteArray)) : (KP Try.f38 G_spec_NamePlaces C_spec_NamePlaces an_spec_NamePlaces (l, b, ns, ())) = (LN l + @sumI Objt szOb l ≤ 1048576 ∧ (Bool.not (layOk l b) = true →
 false = nmOk l b ns ∧ ([] : List Int) = nmP l b ns ∧ True) ∧ (Bool.not (layOk l b) = false →
 (∃ (a : Int), 0 = a ∧ (layout l b).places = (layout l b).places ∧ l = l ∧ ns = ns ∧ ([] : List Int) = nmV (layout l b).places l (ns.take a.toNat) ∧ (layOk l b = true ∧ 0 ≤ a ∧ a ≤ LN ns ∧ nmAll l (ns.take a.toNat) = true) ∧ True) ∧ (∀ (c : Int), layOk l b = true ∧ 0 ≤ c ∧ c ≤ LN ns ∧ nmAll l (ns.take c.toNat) = true →
 ns.length ≤ 9223372036854775807 →
 (decide (c < LN ns) = true →
 (0 ≤ c ∧ c < LN ns) ∧ (∀ (d : ByteArray), ns[c.toNat]? = some d →
 Ok Ty.str d →
 (@List.all Objt l objB = true ∧ l.length ≤ 1000) ∧ (Bool.not (@Option.isSome Given (fnd l d)) = true →
 false = nmOk l b ns ∧ ([] : List Int) = nmP l b ns ∧ True) ∧ (Bool.not (@Option.isSome Given (fnd l d)) = false →
 (isPl (layout l b).places l ∧ In l (@Option.getD Given (fnd l d) (Given.mk 0 0))) ∧ (((nmV (layout l b).places l (ns.take c.toNat)).length + [plV (layout l b).places l (@Option.getD Given (fnd l d) (Given.mk 0 0))].length) * 8 ≤ 140737488355328 ∧ (nmV (layout l b).places l (ns.take c.toNat)).length + [plV (layout l b).places l (@Option.getD Given (fnd l d) (Given.mk 0 0))].length ≤ 1000000000000) ∧ i64 (c + 1) ∧ (∃ (e : Int), c + 1 = e ∧ (layout l b).places = (layout l b).places ∧ l = l ∧ ns = ns ∧ nmV (layout l b).places l (ns.take c.toNat) ++ [plV (layout l b).places l (@Option.getD Given (fnd l d) (Given.mk 0 0))] = nmV (layout l b).places l (ns.take e.toNat) ∧ (layOk l b = true ∧ 0 ≤ e ∧ e ≤ LN ns ∧ nmAll l (ns.take e.toNat) = true) ∧ ns.length - e.toNat < ns.length - c.toNat)))) ∧ (decide (c < LN ns) = false →
 true = nmOk l b ns ∧ nmV (layout l b).places l (ns.take c.toNat) = nmP l b ns ∧ True)))) := by kernel_rfl
theorem det_spec_NamePlaces : C_spec_NamePlaces.det = true → ∀ x, (C_spec_NamePlaces.out x).Det := fun _ x => by simp only [C_spec_NamePlaces]; repeat (first | exact Det.ret _ | exact Det.vc' | apply Det.req)
theorem ok_spec_NamePlaces : ConOK Try.prog 38 C_spec_NamePlaces := by
  refine con_q (l := L_spec_NamePlaces) ⟨⟨ok_spec_PlaceSections, det_spec_PlaceSections⟩, ⟨⟨ok_spec_l11Given, det_spec_l11Given⟩, ⟨⟨ok_spec_l13Value, det_spec_l13Value⟩, trivial⟩⟩⟩ Try.func38 rfl (by decide) (by kernel_rfl) rfl an_spec_NamePlaces fun x ho hx => ?_
  obtain ⟨l, b, ns, ⟨⟩⟩ := x
  refine Keeps.of (vc_spec_NamePlaces l b ns) ?_
  revert l b ns ho hx
  show ∀ (l : List (Objt)) (b : Int) (ns : List (ByteArray)), _
  intro l b ns ho hx
  dsimp only [C_spec_NamePlaces, okPTL, okPT, Ok, Ty.cells, SN.cells, OkL, OkC, okI, ci, cb, cs, cl] at ho
  dsimp only [C_spec_NamePlaces, vc, v1, decB, SR.pre] at hx
  have h1 := @isPl_mk l b
  have h2 := fun (h : layOk l b = true) => (lay_all h).1
  have h2 := fun (h : layOk l b = true) => (lay_all h).2.1
  have h3 := fun k => @nmV_tlen (layout l b).places l ns k
  have h4 := @nmV_next (layout l b).places l ns
  have h5 := @nmAll_next l ns
  have h6 := @nmOk_no1 l b ns
  have h7 := @nmOk_no2 l b ns
  have h8 := @nmOk_yes l b ns
  (try delta i64 LN); simp +contextual only [VBt]; (repeat' first | intro _ | apply And.intro); all_goals (try omega)
  all_goals (try grind [nmAll_zero, nmV, fndH])
end Go.Proofs.Ytignicccfjdiiaa
