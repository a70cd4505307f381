/-
  No cell of these rows narrows 'for every input' (looked for: loops, veiled, ifaces, maps, wideKeys, modest, calm, conditions, laid).
  DERIVED. THE GIVEN ROWS OF THIS SEAT. 12 by the template 'for every input the law returns true; each argument reads behind the call as it read before'; 0 by the template 'total and deterministic' (their statements: YtignicccfjdiiaaTotals.lean).
  GIVEN WITH THE SEED: the statements are not yours to turn. If you find one false, say at which input.
  Laid BY PROGRAM, IN A SANDBOX (cutbox-rows.mjs): the forced cells as the released guide's own fill.sh prints them over the translation 5cfdb362acaadaa4… (all of the seat's roots in one cut). By AI agents, Wed Nov 11 2026. No macro, syntax, notation, axiom, sorry.
-/
import Derived.Test.YtignicccfjdiiaaChecked
import GoSem.Claim
import GoSem.ClaimJoined
import GoSem.ClaimMapViews
import Derived.JoinedTies
import Derived.KernelRfl
namespace Go.Proofs.Ytignicccfjdiiaa
/- THE CELL 'sum', in the pinned program and in every row, IS THE sha256 OF THE DUMP (.gsa) THAT YtignicccfjdiiaaProg.lean LOADS. Nothing in Lean hashes anything: it is a label: what it is worth is what the hold of that sum in a sandbox is worth. -/
noncomputable def Try.pinned : Pinned := { name := "ytignicccfjdiiaa", sum := "5cfdb362acaadaa455f1769a707107dc474ba540eaa178f84383d4a8b82ff294", checked := Try.checked }
namespace Rows
def none {H : Type} : Left H := { results := [], args := [] }

/-- 'laws.FnArchiveValid': WHATEVER THE INPUT: true; the input reads as it did. -/
def fnArchiveValidSpec : ChangeSpec := { name := "fnArchiveValid", fn := fun _ => fun
  | [d] => { results := [.lit (.bool true)], args := [d] }
  | _ => none }
def fnArchiveValidRow : OpenClaim := { program := "ytignicccfjdiiaa", sum := "5cfdb362acaadaa455f1769a707107dc474ba540eaa178f84383d4a8b82ff294", func := "loop.example/objectlinker/laws.FnArchiveValid", spec := "fnArchiveValid", unfollowed := true, recurses := true, apart := false }
def FnArchiveValidSaid : Prop := fnArchiveValidRow.holds Try.pinned (OpenSpec.ofChange fnArchiveValidSpec)

/-- ITS FALSE NEIGHBOUR: 'it returns false'. Refute it at one input. -/
def fnArchiveValidWrong : ChangeSpec := { name := "fnArchiveValid", fn := fun _ => fun
  | [d] => { results := [.lit (.bool false)], args := [d] }
  | _ => none }
def FnArchiveValidWrongFalsely : Prop := fnArchiveValidRow.holds Try.pinned (OpenSpec.ofChange fnArchiveValidWrong)

/-- 'laws.FnExactArchiveValid': WHATEVER THE INPUT: true; the input reads as it did. -/
def fnExactArchiveValidSpec : ChangeSpec := { name := "fnExactArchiveValid", fn := fun _ => fun
  | [d] => { results := [.lit (.bool true)], args := [d] }
  | _ => none }
def fnExactArchiveValidRow : OpenClaim := { program := "ytignicccfjdiiaa", sum := "5cfdb362acaadaa455f1769a707107dc474ba540eaa178f84383d4a8b82ff294", func := "loop.example/objectlinker/laws.FnExactArchiveValid", spec := "fnExactArchiveValid", unfollowed := true, recurses := true, apart := false }
def FnExactArchiveValidSaid : Prop := fnExactArchiveValidRow.holds Try.pinned (OpenSpec.ofChange fnExactArchiveValidSpec)

/-- ITS FALSE NEIGHBOUR: 'it returns false'. Refute it at one input. -/
def fnExactArchiveValidWrong : ChangeSpec := { name := "fnExactArchiveValid", fn := fun _ => fun
  | [d] => { results := [.lit (.bool false)], args := [d] }
  | _ => none }
def FnExactArchiveValidWrongFalsely : Prop := fnExactArchiveValidRow.holds Try.pinned (OpenSpec.ofChange fnExactArchiveValidWrong)

/-- 'laws.FnPlaceSections': WHATEVER THE INPUT: true; the input reads as it did. -/
def fnPlaceSectionsSpec : ChangeSpec := { name := "fnPlaceSections", fn := fun _ => fun
  | [d] => { results := [.lit (.bool true)], args := [d] }
  | _ => none }
def fnPlaceSectionsRow : OpenClaim := { program := "ytignicccfjdiiaa", sum := "5cfdb362acaadaa455f1769a707107dc474ba540eaa178f84383d4a8b82ff294", func := "loop.example/objectlinker/laws.FnPlaceSections", spec := "fnPlaceSections", unfollowed := true, recurses := true, apart := false }
def FnPlaceSectionsSaid : Prop := fnPlaceSectionsRow.holds Try.pinned (OpenSpec.ofChange fnPlaceSectionsSpec)

/-- ITS FALSE NEIGHBOUR: 'it returns false'. Refute it at one input. -/
def fnPlaceSectionsWrong : ChangeSpec := { name := "fnPlaceSections", fn := fun _ => fun
  | [d] => { results := [.lit (.bool false)], args := [d] }
  | _ => none }
def FnPlaceSectionsWrongFalsely : Prop := fnPlaceSectionsRow.holds Try.pinned (OpenSpec.ofChange fnPlaceSectionsWrong)

/-- 'laws.FnKindEnds': WHATEVER THE INPUT: true; the input reads as it did. -/
def fnKindEndsSpec : ChangeSpec := { name := "fnKindEnds", fn := fun _ => fun
  | [d] => { results := [.lit (.bool true)], args := [d] }
  | _ => none }
def fnKindEndsRow : OpenClaim := { program := "ytignicccfjdiiaa", sum := "5cfdb362acaadaa455f1769a707107dc474ba540eaa178f84383d4a8b82ff294", func := "loop.example/objectlinker/laws.FnKindEnds", spec := "fnKindEnds", unfollowed := true, recurses := true, apart := false }
def FnKindEndsSaid : Prop := fnKindEndsRow.holds Try.pinned (OpenSpec.ofChange fnKindEndsSpec)

/-- ITS FALSE NEIGHBOUR: 'it returns false'. Refute it at one input. -/
def fnKindEndsWrong : ChangeSpec := { name := "fnKindEnds", fn := fun _ => fun
  | [d] => { results := [.lit (.bool false)], args := [d] }
  | _ => none }
def FnKindEndsWrongFalsely : Prop := fnKindEndsRow.holds Try.pinned (OpenSpec.ofChange fnKindEndsWrong)

/-- 'laws.FnRegionsOf': WHATEVER THE INPUT: true; the input reads as it did. -/
def fnRegionsOfSpec : ChangeSpec := { name := "fnRegionsOf", fn := fun _ => fun
  | [d] => { results := [.lit (.bool true)], args := [d] }
  | _ => none }
def fnRegionsOfRow : OpenClaim := { program := "ytignicccfjdiiaa", sum := "5cfdb362acaadaa455f1769a707107dc474ba540eaa178f84383d4a8b82ff294", func := "loop.example/objectlinker/laws.FnRegionsOf", spec := "fnRegionsOf", unfollowed := true, recurses := true, apart := false }
def FnRegionsOfSaid : Prop := fnRegionsOfRow.holds Try.pinned (OpenSpec.ofChange fnRegionsOfSpec)

/-- ITS FALSE NEIGHBOUR: 'it returns false'. Refute it at one input. -/
def fnRegionsOfWrong : ChangeSpec := { name := "fnRegionsOf", fn := fun _ => fun
  | [d] => { results := [.lit (.bool false)], args := [d] }
  | _ => none }
def FnRegionsOfWrongFalsely : Prop := fnRegionsOfRow.holds Try.pinned (OpenSpec.ofChange fnRegionsOfWrong)

/-- 'laws.FnSymbolPlace': WHATEVER THE INPUT: true; the input reads as it did. -/
def fnSymbolPlaceSpec : ChangeSpec := { name := "fnSymbolPlace", fn := fun _ => fun
  | [d] => { results := [.lit (.bool true)], args := [d] }
  | _ => none }
def fnSymbolPlaceRow : OpenClaim := { program := "ytignicccfjdiiaa", sum := "5cfdb362acaadaa455f1769a707107dc474ba540eaa178f84383d4a8b82ff294", func := "loop.example/objectlinker/laws.FnSymbolPlace", spec := "fnSymbolPlace", unfollowed := true, recurses := true, apart := false }
def FnSymbolPlaceSaid : Prop := fnSymbolPlaceRow.holds Try.pinned (OpenSpec.ofChange fnSymbolPlaceSpec)

/-- ITS FALSE NEIGHBOUR: 'it returns false'. Refute it at one input. -/
def fnSymbolPlaceWrong : ChangeSpec := { name := "fnSymbolPlace", fn := fun _ => fun
  | [d] => { results := [.lit (.bool false)], args := [d] }
  | _ => none }
def FnSymbolPlaceWrongFalsely : Prop := fnSymbolPlaceRow.holds Try.pinned (OpenSpec.ofChange fnSymbolPlaceWrong)

/-- 'laws.FnNamePlaces': WHATEVER THE INPUT: true; the input reads as it did. -/
def fnNamePlacesSpec : ChangeSpec := { name := "fnNamePlaces", fn := fun _ => fun
  | [d] => { results := [.lit (.bool true)], args := [d] }
  | _ => none }
def fnNamePlacesRow : OpenClaim := { program := "ytignicccfjdiiaa", sum := "5cfdb362acaadaa455f1769a707107dc474ba540eaa178f84383d4a8b82ff294", func := "loop.example/objectlinker/laws.FnNamePlaces", spec := "fnNamePlaces", unfollowed := true, recurses := true, apart := false }
def FnNamePlacesSaid : Prop := fnNamePlacesRow.holds Try.pinned (OpenSpec.ofChange fnNamePlacesSpec)

/-- ITS FALSE NEIGHBOUR: 'it returns false'. Refute it at one input. -/
def fnNamePlacesWrong : ChangeSpec := { name := "fnNamePlaces", fn := fun _ => fun
  | [d] => { results := [.lit (.bool false)], args := [d] }
  | _ => none }
def FnNamePlacesWrongFalsely : Prop := fnNamePlacesRow.holds Try.pinned (OpenSpec.ofChange fnNamePlacesWrong)

/-- 'laws.FnExactSymbolPlace': WHATEVER THE INPUT: true; the input reads as it did. -/
def fnExactSymbolPlaceSpec : ChangeSpec := { name := "fnExactSymbolPlace", fn := fun _ => fun
  | [d1, d2, d3, d4] => { results := [.lit (.bool true)], args := [d1, d2, d3, d4] }
  | _ => none }
def fnExactSymbolPlaceRow : OpenClaim := { program := "ytignicccfjdiiaa", sum := "5cfdb362acaadaa455f1769a707107dc474ba540eaa178f84383d4a8b82ff294", func := "loop.example/objectlinker/laws.FnExactSymbolPlace", spec := "fnExactSymbolPlace", unfollowed := true, recurses := true, apart := false }
def FnExactSymbolPlaceSaid : Prop := fnExactSymbolPlaceRow.holds Try.pinned (OpenSpec.ofChange fnExactSymbolPlaceSpec)

/-- ITS FALSE NEIGHBOUR: 'it returns false'. Refute it at one input. -/
def fnExactSymbolPlaceWrong : ChangeSpec := { name := "fnExactSymbolPlace", fn := fun _ => fun
  | [d1, d2, d3, d4] => { results := [.lit (.bool false)], args := [d1, d2, d3, d4] }
  | _ => none }
def FnExactSymbolPlaceWrongFalsely : Prop := fnExactSymbolPlaceRow.holds Try.pinned (OpenSpec.ofChange fnExactSymbolPlaceWrong)

/-- 'laws.FnExactPlaceSections': WHATEVER THE INPUT: true; the input reads as it did. -/
def fnExactPlaceSectionsSpec : ChangeSpec := { name := "fnExactPlaceSections", fn := fun _ => fun
  | [d1, d2] => { results := [.lit (.bool true)], args := [d1, d2] }
  | _ => none }
def fnExactPlaceSectionsRow : OpenClaim := { program := "ytignicccfjdiiaa", sum := "5cfdb362acaadaa455f1769a707107dc474ba540eaa178f84383d4a8b82ff294", func := "loop.example/objectlinker/laws.FnExactPlaceSections", spec := "fnExactPlaceSections", unfollowed := true, recurses := true, apart := false }
def FnExactPlaceSectionsSaid : Prop := fnExactPlaceSectionsRow.holds Try.pinned (OpenSpec.ofChange fnExactPlaceSectionsSpec)

/-- ITS FALSE NEIGHBOUR: 'it returns false'. Refute it at one input. -/
def fnExactPlaceSectionsWrong : ChangeSpec := { name := "fnExactPlaceSections", fn := fun _ => fun
  | [d1, d2] => { results := [.lit (.bool false)], args := [d1, d2] }
  | _ => none }
def FnExactPlaceSectionsWrongFalsely : Prop := fnExactPlaceSectionsRow.holds Try.pinned (OpenSpec.ofChange fnExactPlaceSectionsWrong)

/-- 'laws.FnExactKindEnds': WHATEVER THE INPUT: true; the input reads as it did. -/
def fnExactKindEndsSpec : ChangeSpec := { name := "fnExactKindEnds", fn := fun _ => fun
  | [d1, d2] => { results := [.lit (.bool true)], args := [d1, d2] }
  | _ => none }
def fnExactKindEndsRow : OpenClaim := { program := "ytignicccfjdiiaa", sum := "5cfdb362acaadaa455f1769a707107dc474ba540eaa178f84383d4a8b82ff294", func := "loop.example/objectlinker/laws.FnExactKindEnds", spec := "fnExactKindEnds", unfollowed := true, recurses := true, apart := false }
def FnExactKindEndsSaid : Prop := fnExactKindEndsRow.holds Try.pinned (OpenSpec.ofChange fnExactKindEndsSpec)

/-- ITS FALSE NEIGHBOUR: 'it returns false'. Refute it at one input. -/
def fnExactKindEndsWrong : ChangeSpec := { name := "fnExactKindEnds", fn := fun _ => fun
  | [d1, d2] => { results := [.lit (.bool false)], args := [d1, d2] }
  | _ => none }
def FnExactKindEndsWrongFalsely : Prop := fnExactKindEndsRow.holds Try.pinned (OpenSpec.ofChange fnExactKindEndsWrong)

/-- 'laws.FnExactRegionsOf': WHATEVER THE INPUT: true; the input reads as it did. -/
def fnExactRegionsOfSpec : ChangeSpec := { name := "fnExactRegionsOf", fn := fun _ => fun
  | [d1, d2] => { results := [.lit (.bool true)], args := [d1, d2] }
  | _ => none }
def fnExactRegionsOfRow : OpenClaim := { program := "ytignicccfjdiiaa", sum := "5cfdb362acaadaa455f1769a707107dc474ba540eaa178f84383d4a8b82ff294", func := "loop.example/objectlinker/laws.FnExactRegionsOf", spec := "fnExactRegionsOf", unfollowed := true, recurses := true, apart := false }
def FnExactRegionsOfSaid : Prop := fnExactRegionsOfRow.holds Try.pinned (OpenSpec.ofChange fnExactRegionsOfSpec)

/-- ITS FALSE NEIGHBOUR: 'it returns false'. Refute it at one input. -/
def fnExactRegionsOfWrong : ChangeSpec := { name := "fnExactRegionsOf", fn := fun _ => fun
  | [d1, d2] => { results := [.lit (.bool false)], args := [d1, d2] }
  | _ => none }
def FnExactRegionsOfWrongFalsely : Prop := fnExactRegionsOfRow.holds Try.pinned (OpenSpec.ofChange fnExactRegionsOfWrong)

/-- 'laws.FnExactNamePlaces': WHATEVER THE INPUT: true; the input reads as it did. -/
def fnExactNamePlacesSpec : ChangeSpec := { name := "fnExactNamePlaces", fn := fun _ => fun
  | [d1, d2, d3] => { results := [.lit (.bool true)], args := [d1, d2, d3] }
  | _ => none }
def fnExactNamePlacesRow : OpenClaim := { program := "ytignicccfjdiiaa", sum := "5cfdb362acaadaa455f1769a707107dc474ba540eaa178f84383d4a8b82ff294", func := "loop.example/objectlinker/laws.FnExactNamePlaces", spec := "fnExactNamePlaces", unfollowed := true, recurses := true, apart := false }
def FnExactNamePlacesSaid : Prop := fnExactNamePlacesRow.holds Try.pinned (OpenSpec.ofChange fnExactNamePlacesSpec)

/-- ITS FALSE NEIGHBOUR: 'it returns false'. Refute it at one input. -/
def fnExactNamePlacesWrong : ChangeSpec := { name := "fnExactNamePlaces", fn := fun _ => fun
  | [d1, d2, d3] => { results := [.lit (.bool false)], args := [d1, d2, d3] }
  | _ => none }
def FnExactNamePlacesWrongFalsely : Prop := fnExactNamePlacesRow.holds Try.pinned (OpenSpec.ofChange fnExactNamePlacesWrong)

/- THE SECOND FORM. 'bulk': how many values and letters a reading holds, each counted each time it is reached (what is shared counts as often as it is met; a slice's spare places count too). A statement '..UptoSaid' is the law's where the arguments, and the package variables that the reading takes, are together of bulk at most 1048576: NARROWER than '..Said'. Prove '..Said' where nothing that the law and all that it calls make is longer than what came in: it says more and counts as full. Else prove '..UptoSaid'. A law counts once. -/
mutual
def uptoBulk {H : Type} : DataW H → Nat
  | .lit (.string bytes) => bytes.length + 1
  | .lit _ => 1
  | .nil => 1
  | .ptr d => uptoBulk d + 1
  | .slice elems spare => uptoBulkAll elems + uptoBulkAll spare + 1
  | .agg parts => uptoBulkAll parts + 1
  | .iface _ d => uptoBulk d + 1
  | .map entries => uptoBulkEntries entries + 1
  | .held _ => 1
def uptoBulkAll {H : Type} : List (DataW H) → Nat
  | [] => 0
  | d :: r => uptoBulk d + uptoBulkAll r
def uptoBulkEntries {H : Type} : List (Lit × DataW H) → Nat
  | [] => 0
  | x :: r => uptoBulkEntry x + uptoBulkEntries r
def uptoBulkEntry {H : Type} : Lit × DataW H → Nat
  | (.string bytes, d) => bytes.length + uptoBulk d + 1
  | (_, d) => uptoBulk d + 1
 end
def uptoSmall : (H : Type) → List (DataW H) → Bool := fun _ ds => decide (uptoBulkAll ds ≤ 1048576)
def OpenSpec.upto (s : _root_.Go.ChangeSpec) : _root_.Go.OpenSpec := { _root_.Go.OpenSpec.ofChange s with cond := some uptoSmall }

/-- 'laws.FnArchiveValid', WHERE WHAT IT READS IS OF BULK AT MOST 1048576: true; the input reads as it did. -/
def fnArchiveValidUptoRow : OpenClaim := { program := "ytignicccfjdiiaa", sum := "5cfdb362acaadaa455f1769a707107dc474ba540eaa178f84383d4a8b82ff294", func := "loop.example/objectlinker/laws.FnArchiveValid", spec := "fnArchiveValid", unfollowed := true, recurses := true, apart := false, narrowed := true }
def FnArchiveValidUptoSaid : Prop := fnArchiveValidUptoRow.holds Try.pinned (OpenSpec.upto fnArchiveValidSpec)

/-- 'laws.FnExactArchiveValid', WHERE WHAT IT READS IS OF BULK AT MOST 1048576: true; the input reads as it did. -/
def fnExactArchiveValidUptoRow : OpenClaim := { program := "ytignicccfjdiiaa", sum := "5cfdb362acaadaa455f1769a707107dc474ba540eaa178f84383d4a8b82ff294", func := "loop.example/objectlinker/laws.FnExactArchiveValid", spec := "fnExactArchiveValid", unfollowed := true, recurses := true, apart := false, narrowed := true }
def FnExactArchiveValidUptoSaid : Prop := fnExactArchiveValidUptoRow.holds Try.pinned (OpenSpec.upto fnExactArchiveValidSpec)

/-- 'laws.FnPlaceSections', WHERE WHAT IT READS IS OF BULK AT MOST 1048576: true; the input reads as it did. -/
def fnPlaceSectionsUptoRow : OpenClaim := { program := "ytignicccfjdiiaa", sum := "5cfdb362acaadaa455f1769a707107dc474ba540eaa178f84383d4a8b82ff294", func := "loop.example/objectlinker/laws.FnPlaceSections", spec := "fnPlaceSections", unfollowed := true, recurses := true, apart := false, narrowed := true }
def FnPlaceSectionsUptoSaid : Prop := fnPlaceSectionsUptoRow.holds Try.pinned (OpenSpec.upto fnPlaceSectionsSpec)

/-- 'laws.FnKindEnds', WHERE WHAT IT READS IS OF BULK AT MOST 1048576: true; the input reads as it did. -/
def fnKindEndsUptoRow : OpenClaim := { program := "ytignicccfjdiiaa", sum := "5cfdb362acaadaa455f1769a707107dc474ba540eaa178f84383d4a8b82ff294", func := "loop.example/objectlinker/laws.FnKindEnds", spec := "fnKindEnds", unfollowed := true, recurses := true, apart := false, narrowed := true }
def FnKindEndsUptoSaid : Prop := fnKindEndsUptoRow.holds Try.pinned (OpenSpec.upto fnKindEndsSpec)

/-- 'laws.FnRegionsOf', WHERE WHAT IT READS IS OF BULK AT MOST 1048576: true; the input reads as it did. -/
def fnRegionsOfUptoRow : OpenClaim := { program := "ytignicccfjdiiaa", sum := "5cfdb362acaadaa455f1769a707107dc474ba540eaa178f84383d4a8b82ff294", func := "loop.example/objectlinker/laws.FnRegionsOf", spec := "fnRegionsOf", unfollowed := true, recurses := true, apart := false, narrowed := true }
def FnRegionsOfUptoSaid : Prop := fnRegionsOfUptoRow.holds Try.pinned (OpenSpec.upto fnRegionsOfSpec)

/-- 'laws.FnSymbolPlace', WHERE WHAT IT READS IS OF BULK AT MOST 1048576: true; the input reads as it did. -/
def fnSymbolPlaceUptoRow : OpenClaim := { program := "ytignicccfjdiiaa", sum := "5cfdb362acaadaa455f1769a707107dc474ba540eaa178f84383d4a8b82ff294", func := "loop.example/objectlinker/laws.FnSymbolPlace", spec := "fnSymbolPlace", unfollowed := true, recurses := true, apart := false, narrowed := true }
def FnSymbolPlaceUptoSaid : Prop := fnSymbolPlaceUptoRow.holds Try.pinned (OpenSpec.upto fnSymbolPlaceSpec)

/-- 'laws.FnNamePlaces', WHERE WHAT IT READS IS OF BULK AT MOST 1048576: true; the input reads as it did. -/
def fnNamePlacesUptoRow : OpenClaim := { program := "ytignicccfjdiiaa", sum := "5cfdb362acaadaa455f1769a707107dc474ba540eaa178f84383d4a8b82ff294", func := "loop.example/objectlinker/laws.FnNamePlaces", spec := "fnNamePlaces", unfollowed := true, recurses := true, apart := false, narrowed := true }
def FnNamePlacesUptoSaid : Prop := fnNamePlacesUptoRow.holds Try.pinned (OpenSpec.upto fnNamePlacesSpec)

/-- 'laws.FnExactSymbolPlace', WHERE WHAT IT READS IS OF BULK AT MOST 1048576: true; the input reads as it did. -/
def fnExactSymbolPlaceUptoRow : OpenClaim := { program := "ytignicccfjdiiaa", sum := "5cfdb362acaadaa455f1769a707107dc474ba540eaa178f84383d4a8b82ff294", func := "loop.example/objectlinker/laws.FnExactSymbolPlace", spec := "fnExactSymbolPlace", unfollowed := true, recurses := true, apart := false, narrowed := true }
def FnExactSymbolPlaceUptoSaid : Prop := fnExactSymbolPlaceUptoRow.holds Try.pinned (OpenSpec.upto fnExactSymbolPlaceSpec)

/-- 'laws.FnExactPlaceSections', WHERE WHAT IT READS IS OF BULK AT MOST 1048576: true; the input reads as it did. -/
def fnExactPlaceSectionsUptoRow : OpenClaim := { program := "ytignicccfjdiiaa", sum := "5cfdb362acaadaa455f1769a707107dc474ba540eaa178f84383d4a8b82ff294", func := "loop.example/objectlinker/laws.FnExactPlaceSections", spec := "fnExactPlaceSections", unfollowed := true, recurses := true, apart := false, narrowed := true }
def FnExactPlaceSectionsUptoSaid : Prop := fnExactPlaceSectionsUptoRow.holds Try.pinned (OpenSpec.upto fnExactPlaceSectionsSpec)

/-- 'laws.FnExactKindEnds', WHERE WHAT IT READS IS OF BULK AT MOST 1048576: true; the input reads as it did. -/
def fnExactKindEndsUptoRow : OpenClaim := { program := "ytignicccfjdiiaa", sum := "5cfdb362acaadaa455f1769a707107dc474ba540eaa178f84383d4a8b82ff294", func := "loop.example/objectlinker/laws.FnExactKindEnds", spec := "fnExactKindEnds", unfollowed := true, recurses := true, apart := false, narrowed := true }
def FnExactKindEndsUptoSaid : Prop := fnExactKindEndsUptoRow.holds Try.pinned (OpenSpec.upto fnExactKindEndsSpec)

/-- 'laws.FnExactRegionsOf', WHERE WHAT IT READS IS OF BULK AT MOST 1048576: true; the input reads as it did. -/
def fnExactRegionsOfUptoRow : OpenClaim := { program := "ytignicccfjdiiaa", sum := "5cfdb362acaadaa455f1769a707107dc474ba540eaa178f84383d4a8b82ff294", func := "loop.example/objectlinker/laws.FnExactRegionsOf", spec := "fnExactRegionsOf", unfollowed := true, recurses := true, apart := false, narrowed := true }
def FnExactRegionsOfUptoSaid : Prop := fnExactRegionsOfUptoRow.holds Try.pinned (OpenSpec.upto fnExactRegionsOfSpec)

/-- 'laws.FnExactNamePlaces', WHERE WHAT IT READS IS OF BULK AT MOST 1048576: true; the input reads as it did. -/
def fnExactNamePlacesUptoRow : OpenClaim := { program := "ytignicccfjdiiaa", sum := "5cfdb362acaadaa455f1769a707107dc474ba540eaa178f84383d4a8b82ff294", func := "loop.example/objectlinker/laws.FnExactNamePlaces", spec := "fnExactNamePlaces", unfollowed := true, recurses := true, apart := false, narrowed := true }
def FnExactNamePlacesUptoSaid : Prop := fnExactNamePlacesUptoRow.holds Try.pinned (OpenSpec.upto fnExactNamePlacesSpec)

end Rows
end Go.Proofs.Ytignicccfjdiiaa
