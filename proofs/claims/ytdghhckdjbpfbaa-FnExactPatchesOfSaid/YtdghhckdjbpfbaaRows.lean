/-
  No cell of these rows narrows 'for every input' (looked for: loops, veiled, ifaces, maps, wideKeys, modest, calm, conditions, laid).
  DERIVED. THE GIVEN ROWS OF THIS SEAT. 12 by the template 'for every input the law returns true; each argument reads behind the call as it read before'; 0 by the template 'total and deterministic' (their statements: YtdghhckdjbpfbaaTotals.lean).
  GIVEN WITH THE SEED: the statements are not yours to turn. If you find one false, say at which input.
  Laid BY PROGRAM, IN A SANDBOX (cutbox-rows.mjs): the forced cells as the released guide's own fill.sh prints them over the translation de1e71b04b3e1baa… (all of the seat's roots in one cut). By AI agents, Wed Nov 11 2026. No macro, syntax, notation, axiom, sorry.
-/
import Derived.Test.YtdghhckdjbpfbaaChecked
import GoSem.Claim
import GoSem.ClaimJoined
import GoSem.ClaimMapViews
import Derived.JoinedTies
import Derived.KernelRfl
namespace Go.Proofs.Ytdghhckdjbpfbaa
/- THE CELL 'sum', in the pinned program and in every row, IS THE sha256 OF THE DUMP (.gsa) THAT YtdghhckdjbpfbaaProg.lean LOADS. Nothing in Lean hashes anything: it is a label: what it is worth is what the hold of that sum in a sandbox is worth. -/
noncomputable def Try.pinned : Pinned := { name := "ytdghhckdjbpfbaa", sum := "de1e71b04b3e1baa878f11d49a630b11d6302e5a5b875d8dfbe2ab48a7b2d25e", checked := Try.checked }
namespace Rows
def none {H : Type} : Left H := { results := [], args := [] }

/-- 'laws.FnPatchesFew': WHATEVER THE INPUT: true; the input reads as it did. -/
def fnPatchesFewSpec : ChangeSpec := { name := "fnPatchesFew", fn := fun _ => fun
  | [d] => { results := [.lit (.bool true)], args := [d] }
  | _ => none }
def fnPatchesFewRow : OpenClaim := { program := "ytdghhckdjbpfbaa", sum := "de1e71b04b3e1baa878f11d49a630b11d6302e5a5b875d8dfbe2ab48a7b2d25e", func := "loop.example/objectlinker/laws.FnPatchesFew", spec := "fnPatchesFew", apart := false }
def FnPatchesFewSaid : Prop := fnPatchesFewRow.holds Try.pinned (OpenSpec.ofChange fnPatchesFewSpec)

/-- ITS FALSE NEIGHBOUR: 'it returns false'. Refute it at one input. -/
def fnPatchesFewWrong : ChangeSpec := { name := "fnPatchesFew", fn := fun _ => fun
  | [d] => { results := [.lit (.bool false)], args := [d] }
  | _ => none }
def FnPatchesFewWrongFalsely : Prop := fnPatchesFewRow.holds Try.pinned (OpenSpec.ofChange fnPatchesFewWrong)

/-- 'laws.FnExactPatchesOf': WHATEVER THE INPUT: true; the input reads as it did. -/
def fnExactPatchesOfSpec : ChangeSpec := { name := "fnExactPatchesOf", fn := fun _ => fun
  | [d1, d2] => { results := [.lit (.bool true)], args := [d1, d2] }
  | _ => none }
def fnExactPatchesOfRow : OpenClaim := { program := "ytdghhckdjbpfbaa", sum := "de1e71b04b3e1baa878f11d49a630b11d6302e5a5b875d8dfbe2ab48a7b2d25e", func := "loop.example/objectlinker/laws.FnExactPatchesOf", spec := "fnExactPatchesOf", apart := false }
def FnExactPatchesOfSaid : Prop := fnExactPatchesOfRow.holds Try.pinned (OpenSpec.ofChange fnExactPatchesOfSpec)

/-- ITS FALSE NEIGHBOUR: 'it returns false'. Refute it at one input. -/
def fnExactPatchesOfWrong : ChangeSpec := { name := "fnExactPatchesOf", fn := fun _ => fun
  | [d1, d2] => { results := [.lit (.bool false)], args := [d1, d2] }
  | _ => none }
def FnExactPatchesOfWrongFalsely : Prop := fnExactPatchesOfRow.holds Try.pinned (OpenSpec.ofChange fnExactPatchesOfWrong)

/-- 'laws.FnExactApplyFixup': WHATEVER THE INPUT: true; the input reads as it did. -/
def fnExactApplyFixupSpec : ChangeSpec := { name := "fnExactApplyFixup", fn := fun _ => fun
  | [d1, d2, d3, d4] => { results := [.lit (.bool true)], args := [d1, d2, d3, d4] }
  | _ => none }
def fnExactApplyFixupRow : OpenClaim := { program := "ytdghhckdjbpfbaa", sum := "de1e71b04b3e1baa878f11d49a630b11d6302e5a5b875d8dfbe2ab48a7b2d25e", func := "loop.example/objectlinker/laws.FnExactApplyFixup", spec := "fnExactApplyFixup", apart := false }
def FnExactApplyFixupSaid : Prop := fnExactApplyFixupRow.holds Try.pinned (OpenSpec.ofChange fnExactApplyFixupSpec)

/-- ITS FALSE NEIGHBOUR: 'it returns false'. Refute it at one input. -/
def fnExactApplyFixupWrong : ChangeSpec := { name := "fnExactApplyFixup", fn := fun _ => fun
  | [d1, d2, d3, d4] => { results := [.lit (.bool false)], args := [d1, d2, d3, d4] }
  | _ => none }
def FnExactApplyFixupWrongFalsely : Prop := fnExactApplyFixupRow.holds Try.pinned (OpenSpec.ofChange fnExactApplyFixupWrong)

/-- 'laws.FnPatchesOf': WHATEVER THE INPUT: true; the input reads as it did. -/
def fnPatchesOfSpec : ChangeSpec := { name := "fnPatchesOf", fn := fun _ => fun
  | [d] => { results := [.lit (.bool true)], args := [d] }
  | _ => none }
def fnPatchesOfRow : OpenClaim := { program := "ytdghhckdjbpfbaa", sum := "de1e71b04b3e1baa878f11d49a630b11d6302e5a5b875d8dfbe2ab48a7b2d25e", func := "loop.example/objectlinker/laws.FnPatchesOf", spec := "fnPatchesOf", apart := false }
def FnPatchesOfSaid : Prop := fnPatchesOfRow.holds Try.pinned (OpenSpec.ofChange fnPatchesOfSpec)

/-- ITS FALSE NEIGHBOUR: 'it returns false'. Refute it at one input. -/
def fnPatchesOfWrong : ChangeSpec := { name := "fnPatchesOf", fn := fun _ => fun
  | [d] => { results := [.lit (.bool false)], args := [d] }
  | _ => none }
def FnPatchesOfWrongFalsely : Prop := fnPatchesOfRow.holds Try.pinned (OpenSpec.ofChange fnPatchesOfWrong)

/-- 'laws.FnApplyPatches': WHATEVER THE INPUT: true; the input reads as it did. -/
def fnApplyPatchesSpec : ChangeSpec := { name := "fnApplyPatches", fn := fun _ => fun
  | [d] => { results := [.lit (.bool true)], args := [d] }
  | _ => none }
def fnApplyPatchesRow : OpenClaim := { program := "ytdghhckdjbpfbaa", sum := "de1e71b04b3e1baa878f11d49a630b11d6302e5a5b875d8dfbe2ab48a7b2d25e", func := "loop.example/objectlinker/laws.FnApplyPatches", spec := "fnApplyPatches", apart := false }
def FnApplyPatchesSaid : Prop := fnApplyPatchesRow.holds Try.pinned (OpenSpec.ofChange fnApplyPatchesSpec)

/-- ITS FALSE NEIGHBOUR: 'it returns false'. Refute it at one input. -/
def fnApplyPatchesWrong : ChangeSpec := { name := "fnApplyPatches", fn := fun _ => fun
  | [d] => { results := [.lit (.bool false)], args := [d] }
  | _ => none }
def FnApplyPatchesWrongFalsely : Prop := fnApplyPatchesRow.holds Try.pinned (OpenSpec.ofChange fnApplyPatchesWrong)

/-- 'laws.FnApplyFixup': WHATEVER THE INPUT: true; the input reads as it did. -/
def fnApplyFixupSpec : ChangeSpec := { name := "fnApplyFixup", fn := fun _ => fun
  | [d] => { results := [.lit (.bool true)], args := [d] }
  | _ => none }
def fnApplyFixupRow : OpenClaim := { program := "ytdghhckdjbpfbaa", sum := "de1e71b04b3e1baa878f11d49a630b11d6302e5a5b875d8dfbe2ab48a7b2d25e", func := "loop.example/objectlinker/laws.FnApplyFixup", spec := "fnApplyFixup", apart := false }
def FnApplyFixupSaid : Prop := fnApplyFixupRow.holds Try.pinned (OpenSpec.ofChange fnApplyFixupSpec)

/-- ITS FALSE NEIGHBOUR: 'it returns false'. Refute it at one input. -/
def fnApplyFixupWrong : ChangeSpec := { name := "fnApplyFixup", fn := fun _ => fun
  | [d] => { results := [.lit (.bool false)], args := [d] }
  | _ => none }
def FnApplyFixupWrongFalsely : Prop := fnApplyFixupRow.holds Try.pinned (OpenSpec.ofChange fnApplyFixupWrong)

/-- 'laws.FnExactMakeHash': WHATEVER THE INPUT: true; the input reads as it did. -/
def fnExactMakeHashSpec : ChangeSpec := { name := "fnExactMakeHash", fn := fun _ => fun
  | [d1, d2] => { results := [.lit (.bool true)], args := [d1, d2] }
  | _ => none }
def fnExactMakeHashRow : OpenClaim := { program := "ytdghhckdjbpfbaa", sum := "de1e71b04b3e1baa878f11d49a630b11d6302e5a5b875d8dfbe2ab48a7b2d25e", func := "loop.example/objectlinker/laws.FnExactMakeHash", spec := "fnExactMakeHash", unfollowed := true, recurses := true, apart := false }
def FnExactMakeHashSaid : Prop := fnExactMakeHashRow.holds Try.pinned (OpenSpec.ofChange fnExactMakeHashSpec)

/-- ITS FALSE NEIGHBOUR: 'it returns false'. Refute it at one input. -/
def fnExactMakeHashWrong : ChangeSpec := { name := "fnExactMakeHash", fn := fun _ => fun
  | [d1, d2] => { results := [.lit (.bool false)], args := [d1, d2] }
  | _ => none }
def FnExactMakeHashWrongFalsely : Prop := fnExactMakeHashRow.holds Try.pinned (OpenSpec.ofChange fnExactMakeHashWrong)

/-- 'laws.FnExactHashValid': WHATEVER THE INPUT: true; the input reads as it did. -/
def fnExactHashValidSpec : ChangeSpec := { name := "fnExactHashValid", fn := fun _ => fun
  | [d] => { results := [.lit (.bool true)], args := [d] }
  | _ => none }
def fnExactHashValidRow : OpenClaim := { program := "ytdghhckdjbpfbaa", sum := "de1e71b04b3e1baa878f11d49a630b11d6302e5a5b875d8dfbe2ab48a7b2d25e", func := "loop.example/objectlinker/laws.FnExactHashValid", spec := "fnExactHashValid", unfollowed := true, recurses := true, apart := false }
def FnExactHashValidSaid : Prop := fnExactHashValidRow.holds Try.pinned (OpenSpec.ofChange fnExactHashValidSpec)

/-- ITS FALSE NEIGHBOUR: 'it returns false'. Refute it at one input. -/
def fnExactHashValidWrong : ChangeSpec := { name := "fnExactHashValid", fn := fun _ => fun
  | [d] => { results := [.lit (.bool false)], args := [d] }
  | _ => none }
def FnExactHashValidWrongFalsely : Prop := fnExactHashValidRow.holds Try.pinned (OpenSpec.ofChange fnExactHashValidWrong)

/-- 'laws.FnMakeHash': WHATEVER THE INPUT: true; the input reads as it did. -/
def fnMakeHashSpec : ChangeSpec := { name := "fnMakeHash", fn := fun _ => fun
  | [d] => { results := [.lit (.bool true)], args := [d] }
  | _ => none }
def fnMakeHashRow : OpenClaim := { program := "ytdghhckdjbpfbaa", sum := "de1e71b04b3e1baa878f11d49a630b11d6302e5a5b875d8dfbe2ab48a7b2d25e", func := "loop.example/objectlinker/laws.FnMakeHash", spec := "fnMakeHash", unfollowed := true, recurses := true, apart := false }
def FnMakeHashSaid : Prop := fnMakeHashRow.holds Try.pinned (OpenSpec.ofChange fnMakeHashSpec)

/-- ITS FALSE NEIGHBOUR: 'it returns false'. Refute it at one input. -/
def fnMakeHashWrong : ChangeSpec := { name := "fnMakeHash", fn := fun _ => fun
  | [d] => { results := [.lit (.bool false)], args := [d] }
  | _ => none }
def FnMakeHashWrongFalsely : Prop := fnMakeHashRow.holds Try.pinned (OpenSpec.ofChange fnMakeHashWrong)

/-- 'laws.FnHashValid': WHATEVER THE INPUT: true; the input reads as it did. -/
def fnHashValidSpec : ChangeSpec := { name := "fnHashValid", fn := fun _ => fun
  | [d] => { results := [.lit (.bool true)], args := [d] }
  | _ => none }
def fnHashValidRow : OpenClaim := { program := "ytdghhckdjbpfbaa", sum := "de1e71b04b3e1baa878f11d49a630b11d6302e5a5b875d8dfbe2ab48a7b2d25e", func := "loop.example/objectlinker/laws.FnHashValid", spec := "fnHashValid", unfollowed := true, recurses := true, apart := false }
def FnHashValidSaid : Prop := fnHashValidRow.holds Try.pinned (OpenSpec.ofChange fnHashValidSpec)

/-- ITS FALSE NEIGHBOUR: 'it returns false'. Refute it at one input. -/
def fnHashValidWrong : ChangeSpec := { name := "fnHashValid", fn := fun _ => fun
  | [d] => { results := [.lit (.bool false)], args := [d] }
  | _ => none }
def FnHashValidWrongFalsely : Prop := fnHashValidRow.holds Try.pinned (OpenSpec.ofChange fnHashValidWrong)

/-- 'laws.FnFindHash': WHATEVER THE INPUT: true; the input reads as it did. -/
def fnFindHashSpec : ChangeSpec := { name := "fnFindHash", fn := fun _ => fun
  | [d] => { results := [.lit (.bool true)], args := [d] }
  | _ => none }
def fnFindHashRow : OpenClaim := { program := "ytdghhckdjbpfbaa", sum := "de1e71b04b3e1baa878f11d49a630b11d6302e5a5b875d8dfbe2ab48a7b2d25e", func := "loop.example/objectlinker/laws.FnFindHash", spec := "fnFindHash", unfollowed := true, recurses := true, apart := false }
def FnFindHashSaid : Prop := fnFindHashRow.holds Try.pinned (OpenSpec.ofChange fnFindHashSpec)

/-- ITS FALSE NEIGHBOUR: 'it returns false'. Refute it at one input. -/
def fnFindHashWrong : ChangeSpec := { name := "fnFindHash", fn := fun _ => fun
  | [d] => { results := [.lit (.bool false)], args := [d] }
  | _ => none }
def FnFindHashWrongFalsely : Prop := fnFindHashRow.holds Try.pinned (OpenSpec.ofChange fnFindHashWrong)

/-- 'laws.FnExactFindHash': WHATEVER THE INPUT: true; the input reads as it did. -/
def fnExactFindHashSpec : ChangeSpec := { name := "fnExactFindHash", fn := fun _ => fun
  | [d1, d2] => { results := [.lit (.bool true)], args := [d1, d2] }
  | _ => none }
def fnExactFindHashRow : OpenClaim := { program := "ytdghhckdjbpfbaa", sum := "de1e71b04b3e1baa878f11d49a630b11d6302e5a5b875d8dfbe2ab48a7b2d25e", func := "loop.example/objectlinker/laws.FnExactFindHash", spec := "fnExactFindHash", unfollowed := true, recurses := true, apart := false }
def FnExactFindHashSaid : Prop := fnExactFindHashRow.holds Try.pinned (OpenSpec.ofChange fnExactFindHashSpec)

/-- ITS FALSE NEIGHBOUR: 'it returns false'. Refute it at one input. -/
def fnExactFindHashWrong : ChangeSpec := { name := "fnExactFindHash", fn := fun _ => fun
  | [d1, d2] => { results := [.lit (.bool false)], args := [d1, d2] }
  | _ => none }
def FnExactFindHashWrongFalsely : Prop := fnExactFindHashRow.holds Try.pinned (OpenSpec.ofChange fnExactFindHashWrong)

/- THE SECOND FORM. 'bulk': how many values and letters a reading holds, each counted each time it is reached (what is shared counts as often as it is met; a slice's spare places count too). A statement '..UptoSaid' is the law's where the arguments, and the package variables that the reading takes, are together of bulk at most 1048576: NARROWER than '..Said'. Prove '..Said' where nothing that the law and all that it calls make is longer than what came in: it says more and counts as full. Else prove '..UptoSaid'. A law counts once. -/
mutual
def uptoBulk {H : Type} : DataW H → Nat
  | .lit (.string bytes) => bytes.length + 1
  | .lit _ => 1
  | .nil => 1
  | .ptr d => uptoBulk d + 1
  | .slice elems spare => uptoBulkAll elems + uptoBulkAll spare + 1
  | .agg parts => uptoBulkAll parts + 1
  | .iface _ d => uptoBulk d + 1
  | .map entries => uptoBulkEntries entries + 1
  | .held _ => 1
def uptoBulkAll {H : Type} : List (DataW H) → Nat
  | [] => 0
  | d :: r => uptoBulk d + uptoBulkAll r
def uptoBulkEntries {H : Type} : List (Lit × DataW H) → Nat
  | [] => 0
  | x :: r => uptoBulkEntry x + uptoBulkEntries r
def uptoBulkEntry {H : Type} : Lit × DataW H → Nat
  | (.string bytes, d) => bytes.length + uptoBulk d + 1
  | (_, d) => uptoBulk d + 1
 end
def uptoSmall : (H : Type) → List (DataW H) → Bool := fun _ ds => decide (uptoBulkAll ds ≤ 1048576)
def OpenSpec.upto (s : _root_.Go.ChangeSpec) : _root_.Go.OpenSpec := { _root_.Go.OpenSpec.ofChange s with cond := some uptoSmall }

/-- 'laws.FnPatchesFew', WHERE WHAT IT READS IS OF BULK AT MOST 1048576: true; the input reads as it did. -/
def fnPatchesFewUptoRow : OpenClaim := { program := "ytdghhckdjbpfbaa", sum := "de1e71b04b3e1baa878f11d49a630b11d6302e5a5b875d8dfbe2ab48a7b2d25e", func := "loop.example/objectlinker/laws.FnPatchesFew", spec := "fnPatchesFew", apart := false, narrowed := true }
def FnPatchesFewUptoSaid : Prop := fnPatchesFewUptoRow.holds Try.pinned (OpenSpec.upto fnPatchesFewSpec)

/-- 'laws.FnExactPatchesOf', WHERE WHAT IT READS IS OF BULK AT MOST 1048576: true; the input reads as it did. -/
def fnExactPatchesOfUptoRow : OpenClaim := { program := "ytdghhckdjbpfbaa", sum := "de1e71b04b3e1baa878f11d49a630b11d6302e5a5b875d8dfbe2ab48a7b2d25e", func := "loop.example/objectlinker/laws.FnExactPatchesOf", spec := "fnExactPatchesOf", apart := false, narrowed := true }
def FnExactPatchesOfUptoSaid : Prop := fnExactPatchesOfUptoRow.holds Try.pinned (OpenSpec.upto fnExactPatchesOfSpec)

/-- 'laws.FnExactApplyFixup', WHERE WHAT IT READS IS OF BULK AT MOST 1048576: true; the input reads as it did. -/
def fnExactApplyFixupUptoRow : OpenClaim := { program := "ytdghhckdjbpfbaa", sum := "de1e71b04b3e1baa878f11d49a630b11d6302e5a5b875d8dfbe2ab48a7b2d25e", func := "loop.example/objectlinker/laws.FnExactApplyFixup", spec := "fnExactApplyFixup", apart := false, narrowed := true }
def FnExactApplyFixupUptoSaid : Prop := fnExactApplyFixupUptoRow.holds Try.pinned (OpenSpec.upto fnExactApplyFixupSpec)

/-- 'laws.FnPatchesOf', WHERE WHAT IT READS IS OF BULK AT MOST 1048576: true; the input reads as it did. -/
def fnPatchesOfUptoRow : OpenClaim := { program := "ytdghhckdjbpfbaa", sum := "de1e71b04b3e1baa878f11d49a630b11d6302e5a5b875d8dfbe2ab48a7b2d25e", func := "loop.example/objectlinker/laws.FnPatchesOf", spec := "fnPatchesOf", apart := false, narrowed := true }
def FnPatchesOfUptoSaid : Prop := fnPatchesOfUptoRow.holds Try.pinned (OpenSpec.upto fnPatchesOfSpec)

/-- 'laws.FnApplyPatches', WHERE WHAT IT READS IS OF BULK AT MOST 1048576: true; the input reads as it did. -/
def fnApplyPatchesUptoRow : OpenClaim := { program := "ytdghhckdjbpfbaa", sum := "de1e71b04b3e1baa878f11d49a630b11d6302e5a5b875d8dfbe2ab48a7b2d25e", func := "loop.example/objectlinker/laws.FnApplyPatches", spec := "fnApplyPatches", apart := false, narrowed := true }
def FnApplyPatchesUptoSaid : Prop := fnApplyPatchesUptoRow.holds Try.pinned (OpenSpec.upto fnApplyPatchesSpec)

/-- 'laws.FnApplyFixup', WHERE WHAT IT READS IS OF BULK AT MOST 1048576: true; the input reads as it did. -/
def fnApplyFixupUptoRow : OpenClaim := { program := "ytdghhckdjbpfbaa", sum := "de1e71b04b3e1baa878f11d49a630b11d6302e5a5b875d8dfbe2ab48a7b2d25e", func := "loop.example/objectlinker/laws.FnApplyFixup", spec := "fnApplyFixup", apart := false, narrowed := true }
def FnApplyFixupUptoSaid : Prop := fnApplyFixupUptoRow.holds Try.pinned (OpenSpec.upto fnApplyFixupSpec)

/-- 'laws.FnExactMakeHash', WHERE WHAT IT READS IS OF BULK AT MOST 1048576: true; the input reads as it did. -/
def fnExactMakeHashUptoRow : OpenClaim := { program := "ytdghhckdjbpfbaa", sum := "de1e71b04b3e1baa878f11d49a630b11d6302e5a5b875d8dfbe2ab48a7b2d25e", func := "loop.example/objectlinker/laws.FnExactMakeHash", spec := "fnExactMakeHash", unfollowed := true, recurses := true, apart := false, narrowed := true }
def FnExactMakeHashUptoSaid : Prop := fnExactMakeHashUptoRow.holds Try.pinned (OpenSpec.upto fnExactMakeHashSpec)

/-- 'laws.FnExactHashValid', WHERE WHAT IT READS IS OF BULK AT MOST 1048576: true; the input reads as it did. -/
def fnExactHashValidUptoRow : OpenClaim := { program := "ytdghhckdjbpfbaa", sum := "de1e71b04b3e1baa878f11d49a630b11d6302e5a5b875d8dfbe2ab48a7b2d25e", func := "loop.example/objectlinker/laws.FnExactHashValid", spec := "fnExactHashValid", unfollowed := true, recurses := true, apart := false, narrowed := true }
def FnExactHashValidUptoSaid : Prop := fnExactHashValidUptoRow.holds Try.pinned (OpenSpec.upto fnExactHashValidSpec)

/-- 'laws.FnMakeHash', WHERE WHAT IT READS IS OF BULK AT MOST 1048576: true; the input reads as it did. -/
def fnMakeHashUptoRow : OpenClaim := { program := "ytdghhckdjbpfbaa", sum := "de1e71b04b3e1baa878f11d49a630b11d6302e5a5b875d8dfbe2ab48a7b2d25e", func := "loop.example/objectlinker/laws.FnMakeHash", spec := "fnMakeHash", unfollowed := true, recurses := true, apart := false, narrowed := true }
def FnMakeHashUptoSaid : Prop := fnMakeHashUptoRow.holds Try.pinned (OpenSpec.upto fnMakeHashSpec)

/-- 'laws.FnHashValid', WHERE WHAT IT READS IS OF BULK AT MOST 1048576: true; the input reads as it did. -/
def fnHashValidUptoRow : OpenClaim := { program := "ytdghhckdjbpfbaa", sum := "de1e71b04b3e1baa878f11d49a630b11d6302e5a5b875d8dfbe2ab48a7b2d25e", func := "loop.example/objectlinker/laws.FnHashValid", spec := "fnHashValid", unfollowed := true, recurses := true, apart := false, narrowed := true }
def FnHashValidUptoSaid : Prop := fnHashValidUptoRow.holds Try.pinned (OpenSpec.upto fnHashValidSpec)

/-- 'laws.FnFindHash', WHERE WHAT IT READS IS OF BULK AT MOST 1048576: true; the input reads as it did. -/
def fnFindHashUptoRow : OpenClaim := { program := "ytdghhckdjbpfbaa", sum := "de1e71b04b3e1baa878f11d49a630b11d6302e5a5b875d8dfbe2ab48a7b2d25e", func := "loop.example/objectlinker/laws.FnFindHash", spec := "fnFindHash", unfollowed := true, recurses := true, apart := false, narrowed := true }
def FnFindHashUptoSaid : Prop := fnFindHashUptoRow.holds Try.pinned (OpenSpec.upto fnFindHashSpec)

/-- 'laws.FnExactFindHash', WHERE WHAT IT READS IS OF BULK AT MOST 1048576: true; the input reads as it did. -/
def fnExactFindHashUptoRow : OpenClaim := { program := "ytdghhckdjbpfbaa", sum := "de1e71b04b3e1baa878f11d49a630b11d6302e5a5b875d8dfbe2ab48a7b2d25e", func := "loop.example/objectlinker/laws.FnExactFindHash", spec := "fnExactFindHash", unfollowed := true, recurses := true, apart := false, narrowed := true }
def FnExactFindHashUptoSaid : Prop := fnExactFindHashUptoRow.holds Try.pinned (OpenSpec.upto fnExactFindHashSpec)

end Rows
end Go.Proofs.Ytdghhckdjbpfbaa
