/-
  No cell of these rows narrows 'for every input' (looked for: loops, veiled, ifaces, maps, wideKeys, modest, calm, conditions, laid).
  DERIVED. THE GIVEN ROWS OF THIS SEAT. 12 by the template 'for every input the law returns true; each argument reads behind the call as it read before'; 0 by the template 'total and deterministic' (their statements: YthdekdghhppkgaaTotals.lean).
  GIVEN WITH THE SEED: the statements are not yours to turn. If you find one false, say at which input.
  Laid BY PROGRAM, IN A SANDBOX (cutbox-rows.mjs): the forced cells as the released guide's own fill.sh prints them over the translation 49876e0a8837b580… (all of the seat's roots in one cut). By AI agents, Wed Nov 11 2026. No macro, syntax, notation, axiom, sorry.
-/
import Derived.Test.YthdekdghhppkgaaChecked
import GoSem.Claim
import GoSem.ClaimJoined
import GoSem.ClaimMapViews
import Derived.JoinedTies
import Derived.KernelRfl
namespace Go.Proofs.Ythdekdghhppkgaa
/- THE CELL 'sum', in the pinned program and in every row, IS THE sha256 OF THE DUMP (.gsa) THAT YthdekdghhppkgaaProg.lean LOADS. Nothing in Lean hashes anything: it is a label: what it is worth is what the hold of that sum in a sandbox is worth. -/
noncomputable def Try.pinned : Pinned := { name := "ythdekdghhppkgaa", sum := "49876e0a8837b5802b1d1d208e7a958ca1f44cbc46a40aa22f7543ba93f70c93", checked := Try.checked }
namespace Rows
def none {H : Type} : Left H := { results := [], args := [] }

/-- 'laws.FnExactHashOf': WHATEVER THE INPUT: true; the input reads as it did. -/
def fnExactHashOfSpec : ChangeSpec := { name := "fnExactHashOf", fn := fun _ => fun
  | [d] => { results := [.lit (.bool true)], args := [d] }
  | _ => none }
def fnExactHashOfRow : OpenClaim := { program := "ythdekdghhppkgaa", sum := "49876e0a8837b5802b1d1d208e7a958ca1f44cbc46a40aa22f7543ba93f70c93", func := "loop.example/objectlinker/laws.FnExactHashOf", spec := "fnExactHashOf", apart := false }
def FnExactHashOfSaid : Prop := fnExactHashOfRow.holds Try.pinned (OpenSpec.ofChange fnExactHashOfSpec)

/-- ITS FALSE NEIGHBOUR: 'it returns false'. Refute it at one input. -/
def fnExactHashOfWrong : ChangeSpec := { name := "fnExactHashOf", fn := fun _ => fun
  | [d] => { results := [.lit (.bool false)], args := [d] }
  | _ => none }
def FnExactHashOfWrongFalsely : Prop := fnExactHashOfRow.holds Try.pinned (OpenSpec.ofChange fnExactHashOfWrong)

/-- 'laws.FnExactFixupValue': WHATEVER THE INPUT: true; the input reads as it did. -/
def fnExactFixupValueSpec : ChangeSpec := { name := "fnExactFixupValue", fn := fun _ => fun
  | [d1, d2, d3, d4] => { results := [.lit (.bool true)], args := [d1, d2, d3, d4] }
  | _ => none }
def fnExactFixupValueRow : OpenClaim := { program := "ythdekdghhppkgaa", sum := "49876e0a8837b5802b1d1d208e7a958ca1f44cbc46a40aa22f7543ba93f70c93", func := "loop.example/objectlinker/laws.FnExactFixupValue", spec := "fnExactFixupValue", apart := false }
def FnExactFixupValueSaid : Prop := fnExactFixupValueRow.holds Try.pinned (OpenSpec.ofChange fnExactFixupValueSpec)

/-- ITS FALSE NEIGHBOUR: 'it returns false'. Refute it at one input. -/
def fnExactFixupValueWrong : ChangeSpec := { name := "fnExactFixupValue", fn := fun _ => fun
  | [d1, d2, d3, d4] => { results := [.lit (.bool false)], args := [d1, d2, d3, d4] }
  | _ => none }
def FnExactFixupValueWrongFalsely : Prop := fnExactFixupValueRow.holds Try.pinned (OpenSpec.ofChange fnExactFixupValueWrong)

/-- 'laws.FnExactImageValid': WHATEVER THE INPUT: true; the input reads as it did. -/
def fnExactImageValidSpec : ChangeSpec := { name := "fnExactImageValid", fn := fun _ => fun
  | [d] => { results := [.lit (.bool true)], args := [d] }
  | _ => none }
def fnExactImageValidRow : OpenClaim := { program := "ythdekdghhppkgaa", sum := "49876e0a8837b5802b1d1d208e7a958ca1f44cbc46a40aa22f7543ba93f70c93", func := "loop.example/objectlinker/laws.FnExactImageValid", spec := "fnExactImageValid", apart := false }
def FnExactImageValidSaid : Prop := fnExactImageValidRow.holds Try.pinned (OpenSpec.ofChange fnExactImageValidSpec)

/-- ITS FALSE NEIGHBOUR: 'it returns false'. Refute it at one input. -/
def fnExactImageValidWrong : ChangeSpec := { name := "fnExactImageValid", fn := fun _ => fun
  | [d] => { results := [.lit (.bool false)], args := [d] }
  | _ => none }
def FnExactImageValidWrongFalsely : Prop := fnExactImageValidRow.holds Try.pinned (OpenSpec.ofChange fnExactImageValidWrong)

/-- 'laws.FnHashOf': WHATEVER THE INPUT: true; the input reads as it did. -/
def fnHashOfSpec : ChangeSpec := { name := "fnHashOf", fn := fun _ => fun
  | [d] => { results := [.lit (.bool true)], args := [d] }
  | _ => none }
def fnHashOfRow : OpenClaim := { program := "ythdekdghhppkgaa", sum := "49876e0a8837b5802b1d1d208e7a958ca1f44cbc46a40aa22f7543ba93f70c93", func := "loop.example/objectlinker/laws.FnHashOf", spec := "fnHashOf", apart := false }
def FnHashOfSaid : Prop := fnHashOfRow.holds Try.pinned (OpenSpec.ofChange fnHashOfSpec)

/-- ITS FALSE NEIGHBOUR: 'it returns false'. Refute it at one input. -/
def fnHashOfWrong : ChangeSpec := { name := "fnHashOf", fn := fun _ => fun
  | [d] => { results := [.lit (.bool false)], args := [d] }
  | _ => none }
def FnHashOfWrongFalsely : Prop := fnHashOfRow.holds Try.pinned (OpenSpec.ofChange fnHashOfWrong)

/-- 'laws.FnImageValid': WHATEVER THE INPUT: true; the input reads as it did. -/
def fnImageValidSpec : ChangeSpec := { name := "fnImageValid", fn := fun _ => fun
  | [d] => { results := [.lit (.bool true)], args := [d] }
  | _ => none }
def fnImageValidRow : OpenClaim := { program := "ythdekdghhppkgaa", sum := "49876e0a8837b5802b1d1d208e7a958ca1f44cbc46a40aa22f7543ba93f70c93", func := "loop.example/objectlinker/laws.FnImageValid", spec := "fnImageValid", apart := false }
def FnImageValidSaid : Prop := fnImageValidRow.holds Try.pinned (OpenSpec.ofChange fnImageValidSpec)

/-- ITS FALSE NEIGHBOUR: 'it returns false'. Refute it at one input. -/
def fnImageValidWrong : ChangeSpec := { name := "fnImageValid", fn := fun _ => fun
  | [d] => { results := [.lit (.bool false)], args := [d] }
  | _ => none }
def FnImageValidWrongFalsely : Prop := fnImageValidRow.holds Try.pinned (OpenSpec.ofChange fnImageValidWrong)

/-- 'laws.FnExactImageByte': WHATEVER THE INPUT: true; the input reads as it did. -/
def fnExactImageByteSpec : ChangeSpec := { name := "fnExactImageByte", fn := fun _ => fun
  | [d1, d2] => { results := [.lit (.bool true)], args := [d1, d2] }
  | _ => none }
def fnExactImageByteRow : OpenClaim := { program := "ythdekdghhppkgaa", sum := "49876e0a8837b5802b1d1d208e7a958ca1f44cbc46a40aa22f7543ba93f70c93", func := "loop.example/objectlinker/laws.FnExactImageByte", spec := "fnExactImageByte", apart := false }
def FnExactImageByteSaid : Prop := fnExactImageByteRow.holds Try.pinned (OpenSpec.ofChange fnExactImageByteSpec)

/-- ITS FALSE NEIGHBOUR: 'it returns false'. Refute it at one input. -/
def fnExactImageByteWrong : ChangeSpec := { name := "fnExactImageByte", fn := fun _ => fun
  | [d1, d2] => { results := [.lit (.bool false)], args := [d1, d2] }
  | _ => none }
def FnExactImageByteWrongFalsely : Prop := fnExactImageByteRow.holds Try.pinned (OpenSpec.ofChange fnExactImageByteWrong)

/-- 'laws.FnImageByte': WHATEVER THE INPUT: true; the input reads as it did. -/
def fnImageByteSpec : ChangeSpec := { name := "fnImageByte", fn := fun _ => fun
  | [d] => { results := [.lit (.bool true)], args := [d] }
  | _ => none }
def fnImageByteRow : OpenClaim := { program := "ythdekdghhppkgaa", sum := "49876e0a8837b5802b1d1d208e7a958ca1f44cbc46a40aa22f7543ba93f70c93", func := "loop.example/objectlinker/laws.FnImageByte", spec := "fnImageByte", apart := false }
def FnImageByteSaid : Prop := fnImageByteRow.holds Try.pinned (OpenSpec.ofChange fnImageByteSpec)

/-- ITS FALSE NEIGHBOUR: 'it returns false'. Refute it at one input. -/
def fnImageByteWrong : ChangeSpec := { name := "fnImageByte", fn := fun _ => fun
  | [d] => { results := [.lit (.bool false)], args := [d] }
  | _ => none }
def FnImageByteWrongFalsely : Prop := fnImageByteRow.holds Try.pinned (OpenSpec.ofChange fnImageByteWrong)

/-- 'laws.FnPatchesValid': WHATEVER THE INPUT: true; the input reads as it did. -/
def fnPatchesValidSpec : ChangeSpec := { name := "fnPatchesValid", fn := fun _ => fun
  | [d] => { results := [.lit (.bool true)], args := [d] }
  | _ => none }
def fnPatchesValidRow : OpenClaim := { program := "ythdekdghhppkgaa", sum := "49876e0a8837b5802b1d1d208e7a958ca1f44cbc46a40aa22f7543ba93f70c93", func := "loop.example/objectlinker/laws.FnPatchesValid", spec := "fnPatchesValid", apart := false }
def FnPatchesValidSaid : Prop := fnPatchesValidRow.holds Try.pinned (OpenSpec.ofChange fnPatchesValidSpec)

/-- ITS FALSE NEIGHBOUR: 'it returns false'. Refute it at one input. -/
def fnPatchesValidWrong : ChangeSpec := { name := "fnPatchesValid", fn := fun _ => fun
  | [d] => { results := [.lit (.bool false)], args := [d] }
  | _ => none }
def FnPatchesValidWrongFalsely : Prop := fnPatchesValidRow.holds Try.pinned (OpenSpec.ofChange fnPatchesValidWrong)

/-- 'laws.FnMemoryValid': WHATEVER THE INPUT: true; the input reads as it did. -/
def fnMemoryValidSpec : ChangeSpec := { name := "fnMemoryValid", fn := fun _ => fun
  | [d] => { results := [.lit (.bool true)], args := [d] }
  | _ => none }
def fnMemoryValidRow : OpenClaim := { program := "ythdekdghhppkgaa", sum := "49876e0a8837b5802b1d1d208e7a958ca1f44cbc46a40aa22f7543ba93f70c93", func := "loop.example/objectlinker/laws.FnMemoryValid", spec := "fnMemoryValid", apart := false }
def FnMemoryValidSaid : Prop := fnMemoryValidRow.holds Try.pinned (OpenSpec.ofChange fnMemoryValidSpec)

/-- ITS FALSE NEIGHBOUR: 'it returns false'. Refute it at one input. -/
def fnMemoryValidWrong : ChangeSpec := { name := "fnMemoryValid", fn := fun _ => fun
  | [d] => { results := [.lit (.bool false)], args := [d] }
  | _ => none }
def FnMemoryValidWrongFalsely : Prop := fnMemoryValidRow.holds Try.pinned (OpenSpec.ofChange fnMemoryValidWrong)

/-- 'laws.FnFixupValue': WHATEVER THE INPUT: true; the input reads as it did. -/
def fnFixupValueSpec : ChangeSpec := { name := "fnFixupValue", fn := fun _ => fun
  | [d] => { results := [.lit (.bool true)], args := [d] }
  | _ => none }
def fnFixupValueRow : OpenClaim := { program := "ythdekdghhppkgaa", sum := "49876e0a8837b5802b1d1d208e7a958ca1f44cbc46a40aa22f7543ba93f70c93", func := "loop.example/objectlinker/laws.FnFixupValue", spec := "fnFixupValue", apart := false }
def FnFixupValueSaid : Prop := fnFixupValueRow.holds Try.pinned (OpenSpec.ofChange fnFixupValueSpec)

/-- ITS FALSE NEIGHBOUR: 'it returns false'. Refute it at one input. -/
def fnFixupValueWrong : ChangeSpec := { name := "fnFixupValue", fn := fun _ => fun
  | [d] => { results := [.lit (.bool false)], args := [d] }
  | _ => none }
def FnFixupValueWrongFalsely : Prop := fnFixupValueRow.holds Try.pinned (OpenSpec.ofChange fnFixupValueWrong)

/-- 'laws.FnExactPatchesValid': WHATEVER THE INPUT: true; the input reads as it did. -/
def fnExactPatchesValidSpec : ChangeSpec := { name := "fnExactPatchesValid", fn := fun _ => fun
  | [d1, d2] => { results := [.lit (.bool true)], args := [d1, d2] }
  | _ => none }
def fnExactPatchesValidRow : OpenClaim := { program := "ythdekdghhppkgaa", sum := "49876e0a8837b5802b1d1d208e7a958ca1f44cbc46a40aa22f7543ba93f70c93", func := "loop.example/objectlinker/laws.FnExactPatchesValid", spec := "fnExactPatchesValid", apart := false }
def FnExactPatchesValidSaid : Prop := fnExactPatchesValidRow.holds Try.pinned (OpenSpec.ofChange fnExactPatchesValidSpec)

/-- ITS FALSE NEIGHBOUR: 'it returns false'. Refute it at one input. -/
def fnExactPatchesValidWrong : ChangeSpec := { name := "fnExactPatchesValid", fn := fun _ => fun
  | [d1, d2] => { results := [.lit (.bool false)], args := [d1, d2] }
  | _ => none }
def FnExactPatchesValidWrongFalsely : Prop := fnExactPatchesValidRow.holds Try.pinned (OpenSpec.ofChange fnExactPatchesValidWrong)

/-- 'laws.FnPatchesFew': WHATEVER THE INPUT: true; the input reads as it did. -/
def fnPatchesFewSpec : ChangeSpec := { name := "fnPatchesFew", fn := fun _ => fun
  | [d] => { results := [.lit (.bool true)], args := [d] }
  | _ => none }
def fnPatchesFewRow : OpenClaim := { program := "ythdekdghhppkgaa", sum := "49876e0a8837b5802b1d1d208e7a958ca1f44cbc46a40aa22f7543ba93f70c93", func := "loop.example/objectlinker/laws.FnPatchesFew", spec := "fnPatchesFew", apart := false }
def FnPatchesFewSaid : Prop := fnPatchesFewRow.holds Try.pinned (OpenSpec.ofChange fnPatchesFewSpec)

/-- ITS FALSE NEIGHBOUR: 'it returns false'. Refute it at one input. -/
def fnPatchesFewWrong : ChangeSpec := { name := "fnPatchesFew", fn := fun _ => fun
  | [d] => { results := [.lit (.bool false)], args := [d] }
  | _ => none }
def FnPatchesFewWrongFalsely : Prop := fnPatchesFewRow.holds Try.pinned (OpenSpec.ofChange fnPatchesFewWrong)

/- THE SECOND FORM. 'bulk': how many values and letters a reading holds, each counted each time it is reached (what is shared counts as often as it is met; a slice's spare places count too). A statement '..UptoSaid' is the law's where the arguments, and the package variables that the reading takes, are together of bulk at most 1048576: NARROWER than '..Said'. Prove '..Said' where nothing that the law and all that it calls make is longer than what came in: it says more and counts as full. Else prove '..UptoSaid'. A law counts once. -/
mutual
def uptoBulk {H : Type} : DataW H → Nat
  | .lit (.string bytes) => bytes.length + 1
  | .lit _ => 1
  | .nil => 1
  | .ptr d => uptoBulk d + 1
  | .slice elems spare => uptoBulkAll elems + uptoBulkAll spare + 1
  | .agg parts => uptoBulkAll parts + 1
  | .iface _ d => uptoBulk d + 1
  | .map entries => uptoBulkEntries entries + 1
  | .held _ => 1
def uptoBulkAll {H : Type} : List (DataW H) → Nat
  | [] => 0
  | d :: r => uptoBulk d + uptoBulkAll r
def uptoBulkEntries {H : Type} : List (Lit × DataW H) → Nat
  | [] => 0
  | x :: r => uptoBulkEntry x + uptoBulkEntries r
def uptoBulkEntry {H : Type} : Lit × DataW H → Nat
  | (.string bytes, d) => bytes.length + uptoBulk d + 1
  | (_, d) => uptoBulk d + 1
 end
def uptoSmall : (H : Type) → List (DataW H) → Bool := fun _ ds => decide (uptoBulkAll ds ≤ 1048576)
def OpenSpec.upto (s : _root_.Go.ChangeSpec) : _root_.Go.OpenSpec := { _root_.Go.OpenSpec.ofChange s with cond := some uptoSmall }

/-- 'laws.FnExactHashOf', WHERE WHAT IT READS IS OF BULK AT MOST 1048576: true; the input reads as it did. -/
def fnExactHashOfUptoRow : OpenClaim := { program := "ythdekdghhppkgaa", sum := "49876e0a8837b5802b1d1d208e7a958ca1f44cbc46a40aa22f7543ba93f70c93", func := "loop.example/objectlinker/laws.FnExactHashOf", spec := "fnExactHashOf", apart := false, narrowed := true }
def FnExactHashOfUptoSaid : Prop := fnExactHashOfUptoRow.holds Try.pinned (OpenSpec.upto fnExactHashOfSpec)

/-- 'laws.FnExactFixupValue', WHERE WHAT IT READS IS OF BULK AT MOST 1048576: true; the input reads as it did. -/
def fnExactFixupValueUptoRow : OpenClaim := { program := "ythdekdghhppkgaa", sum := "49876e0a8837b5802b1d1d208e7a958ca1f44cbc46a40aa22f7543ba93f70c93", func := "loop.example/objectlinker/laws.FnExactFixupValue", spec := "fnExactFixupValue", apart := false, narrowed := true }
def FnExactFixupValueUptoSaid : Prop := fnExactFixupValueUptoRow.holds Try.pinned (OpenSpec.upto fnExactFixupValueSpec)

/-- 'laws.FnExactImageValid', WHERE WHAT IT READS IS OF BULK AT MOST 1048576: true; the input reads as it did. -/
def fnExactImageValidUptoRow : OpenClaim := { program := "ythdekdghhppkgaa", sum := "49876e0a8837b5802b1d1d208e7a958ca1f44cbc46a40aa22f7543ba93f70c93", func := "loop.example/objectlinker/laws.FnExactImageValid", spec := "fnExactImageValid", apart := false, narrowed := true }
def FnExactImageValidUptoSaid : Prop := fnExactImageValidUptoRow.holds Try.pinned (OpenSpec.upto fnExactImageValidSpec)

/-- 'laws.FnHashOf', WHERE WHAT IT READS IS OF BULK AT MOST 1048576: true; the input reads as it did. -/
def fnHashOfUptoRow : OpenClaim := { program := "ythdekdghhppkgaa", sum := "49876e0a8837b5802b1d1d208e7a958ca1f44cbc46a40aa22f7543ba93f70c93", func := "loop.example/objectlinker/laws.FnHashOf", spec := "fnHashOf", apart := false, narrowed := true }
def FnHashOfUptoSaid : Prop := fnHashOfUptoRow.holds Try.pinned (OpenSpec.upto fnHashOfSpec)

/-- 'laws.FnImageValid', WHERE WHAT IT READS IS OF BULK AT MOST 1048576: true; the input reads as it did. -/
def fnImageValidUptoRow : OpenClaim := { program := "ythdekdghhppkgaa", sum := "49876e0a8837b5802b1d1d208e7a958ca1f44cbc46a40aa22f7543ba93f70c93", func := "loop.example/objectlinker/laws.FnImageValid", spec := "fnImageValid", apart := false, narrowed := true }
def FnImageValidUptoSaid : Prop := fnImageValidUptoRow.holds Try.pinned (OpenSpec.upto fnImageValidSpec)

/-- 'laws.FnExactImageByte', WHERE WHAT IT READS IS OF BULK AT MOST 1048576: true; the input reads as it did. -/
def fnExactImageByteUptoRow : OpenClaim := { program := "ythdekdghhppkgaa", sum := "49876e0a8837b5802b1d1d208e7a958ca1f44cbc46a40aa22f7543ba93f70c93", func := "loop.example/objectlinker/laws.FnExactImageByte", spec := "fnExactImageByte", apart := false, narrowed := true }
def FnExactImageByteUptoSaid : Prop := fnExactImageByteUptoRow.holds Try.pinned (OpenSpec.upto fnExactImageByteSpec)

/-- 'laws.FnImageByte', WHERE WHAT IT READS IS OF BULK AT MOST 1048576: true; the input reads as it did. -/
def fnImageByteUptoRow : OpenClaim := { program := "ythdekdghhppkgaa", sum := "49876e0a8837b5802b1d1d208e7a958ca1f44cbc46a40aa22f7543ba93f70c93", func := "loop.example/objectlinker/laws.FnImageByte", spec := "fnImageByte", apart := false, narrowed := true }
def FnImageByteUptoSaid : Prop := fnImageByteUptoRow.holds Try.pinned (OpenSpec.upto fnImageByteSpec)

/-- 'laws.FnPatchesValid', WHERE WHAT IT READS IS OF BULK AT MOST 1048576: true; the input reads as it did. -/
def fnPatchesValidUptoRow : OpenClaim := { program := "ythdekdghhppkgaa", sum := "49876e0a8837b5802b1d1d208e7a958ca1f44cbc46a40aa22f7543ba93f70c93", func := "loop.example/objectlinker/laws.FnPatchesValid", spec := "fnPatchesValid", apart := false, narrowed := true }
def FnPatchesValidUptoSaid : Prop := fnPatchesValidUptoRow.holds Try.pinned (OpenSpec.upto fnPatchesValidSpec)

/-- 'laws.FnMemoryValid', WHERE WHAT IT READS IS OF BULK AT MOST 1048576: true; the input reads as it did. -/
def fnMemoryValidUptoRow : OpenClaim := { program := "ythdekdghhppkgaa", sum := "49876e0a8837b5802b1d1d208e7a958ca1f44cbc46a40aa22f7543ba93f70c93", func := "loop.example/objectlinker/laws.FnMemoryValid", spec := "fnMemoryValid", apart := false, narrowed := true }
def FnMemoryValidUptoSaid : Prop := fnMemoryValidUptoRow.holds Try.pinned (OpenSpec.upto fnMemoryValidSpec)

/-- 'laws.FnFixupValue', WHERE WHAT IT READS IS OF BULK AT MOST 1048576: true; the input reads as it did. -/
def fnFixupValueUptoRow : OpenClaim := { program := "ythdekdghhppkgaa", sum := "49876e0a8837b5802b1d1d208e7a958ca1f44cbc46a40aa22f7543ba93f70c93", func := "loop.example/objectlinker/laws.FnFixupValue", spec := "fnFixupValue", apart := false, narrowed := true }
def FnFixupValueUptoSaid : Prop := fnFixupValueUptoRow.holds Try.pinned (OpenSpec.upto fnFixupValueSpec)

/-- 'laws.FnExactPatchesValid', WHERE WHAT IT READS IS OF BULK AT MOST 1048576: true; the input reads as it did. -/
def fnExactPatchesValidUptoRow : OpenClaim := { program := "ythdekdghhppkgaa", sum := "49876e0a8837b5802b1d1d208e7a958ca1f44cbc46a40aa22f7543ba93f70c93", func := "loop.example/objectlinker/laws.FnExactPatchesValid", spec := "fnExactPatchesValid", apart := false, narrowed := true }
def FnExactPatchesValidUptoSaid : Prop := fnExactPatchesValidUptoRow.holds Try.pinned (OpenSpec.upto fnExactPatchesValidSpec)

/-- 'laws.FnPatchesFew', WHERE WHAT IT READS IS OF BULK AT MOST 1048576: true; the input reads as it did. -/
def fnPatchesFewUptoRow : OpenClaim := { program := "ythdekdghhppkgaa", sum := "49876e0a8837b5802b1d1d208e7a958ca1f44cbc46a40aa22f7543ba93f70c93", func := "loop.example/objectlinker/laws.FnPatchesFew", spec := "fnPatchesFew", apart := false, narrowed := true }
def FnPatchesFewUptoSaid : Prop := fnPatchesFewUptoRow.holds Try.pinned (OpenSpec.upto fnPatchesFewSpec)

end Rows
end Go.Proofs.Ythdekdghhppkgaa
