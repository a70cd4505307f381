/-
  No cell of these rows narrows 'for every input' (looked for: loops, veiled, ifaces, maps, wideKeys, modest, calm, conditions, laid).
  DERIVED. THE GIVEN ROWS OF THIS SEAT. 6 by the template 'for every input the law returns true; each argument reads behind the call as it read before'; 0 by the template 'total and deterministic' (their statements: YtjlgnbdncbcnjaaTotals.lean).
  GIVEN WITH THE SEED: the statements are not yours to turn. If you find one false, say at which input.
  Laid BY PROGRAM, IN A SANDBOX (cutbox-rows.mjs): the forced cells as the released guide's own fill.sh prints them over the translation f0597a9fffbc2971… (all of the seat's roots in one cut). By AI agents, Wed Nov 11 2026. No macro, syntax, notation, axiom, sorry.
-/
import Derived.Test.YtjlgnbdncbcnjaaChecked
import GoSem.Claim
import GoSem.ClaimJoined
import GoSem.ClaimMapViews
import Derived.JoinedTies
import Derived.KernelRfl
namespace Go.Proofs.Ytjlgnbdncbcnjaa
/- THE CELL 'sum', in the pinned program and in every row, IS THE sha256 OF THE DUMP (.gsa) THAT YtjlgnbdncbcnjaaProg.lean LOADS. Nothing in Lean hashes anything: it is a label: what it is worth is what the hold of that sum in a sandbox is worth. -/
noncomputable def Try.pinned : Pinned := { name := "ytjlgnbdncbcnjaa", sum := "f0597a9fffbc29710b2bc5e6b0e5856cadbf9319e4022fdd67b369242fc3d40c", checked := Try.checked }
namespace Rows
def none {H : Type} : Left H := { results := [], args := [] }

/-- 'laws.FnExactMakeHash': WHATEVER THE INPUT: true; the input reads as it did. -/
def fnExactMakeHashSpec : ChangeSpec := { name := "fnExactMakeHash", fn := fun _ => fun
  | [d1, d2] => { results := [.lit (.bool true)], args := [d1, d2] }
  | _ => none }
def fnExactMakeHashRow : OpenClaim := { program := "ytjlgnbdncbcnjaa", sum := "f0597a9fffbc29710b2bc5e6b0e5856cadbf9319e4022fdd67b369242fc3d40c", func := "loop.example/objectlinker/laws.FnExactMakeHash", spec := "fnExactMakeHash", unfollowed := true, recurses := true, apart := false }
def FnExactMakeHashSaid : Prop := fnExactMakeHashRow.holds Try.pinned (OpenSpec.ofChange fnExactMakeHashSpec)

/-- ITS FALSE NEIGHBOUR: 'it returns false'. Refute it at one input. -/
def fnExactMakeHashWrong : ChangeSpec := { name := "fnExactMakeHash", fn := fun _ => fun
  | [d1, d2] => { results := [.lit (.bool false)], args := [d1, d2] }
  | _ => none }
def FnExactMakeHashWrongFalsely : Prop := fnExactMakeHashRow.holds Try.pinned (OpenSpec.ofChange fnExactMakeHashWrong)

/-- 'laws.FnExactHashValid': WHATEVER THE INPUT: true; the input reads as it did. -/
def fnExactHashValidSpec : ChangeSpec := { name := "fnExactHashValid", fn := fun _ => fun
  | [d] => { results := [.lit (.bool true)], args := [d] }
  | _ => none }
def fnExactHashValidRow : OpenClaim := { program := "ytjlgnbdncbcnjaa", sum := "f0597a9fffbc29710b2bc5e6b0e5856cadbf9319e4022fdd67b369242fc3d40c", func := "loop.example/objectlinker/laws.FnExactHashValid", spec := "fnExactHashValid", unfollowed := true, recurses := true, apart := false }
def FnExactHashValidSaid : Prop := fnExactHashValidRow.holds Try.pinned (OpenSpec.ofChange fnExactHashValidSpec)

/-- ITS FALSE NEIGHBOUR: 'it returns false'. Refute it at one input. -/
def fnExactHashValidWrong : ChangeSpec := { name := "fnExactHashValid", fn := fun _ => fun
  | [d] => { results := [.lit (.bool false)], args := [d] }
  | _ => none }
def FnExactHashValidWrongFalsely : Prop := fnExactHashValidRow.holds Try.pinned (OpenSpec.ofChange fnExactHashValidWrong)

/-- 'laws.FnMakeHash': WHATEVER THE INPUT: true; the input reads as it did. -/
def fnMakeHashSpec : ChangeSpec := { name := "fnMakeHash", fn := fun _ => fun
  | [d] => { results := [.lit (.bool true)], args := [d] }
  | _ => none }
def fnMakeHashRow : OpenClaim := { program := "ytjlgnbdncbcnjaa", sum := "f0597a9fffbc29710b2bc5e6b0e5856cadbf9319e4022fdd67b369242fc3d40c", func := "loop.example/objectlinker/laws.FnMakeHash", spec := "fnMakeHash", unfollowed := true, recurses := true, apart := false }
def FnMakeHashSaid : Prop := fnMakeHashRow.holds Try.pinned (OpenSpec.ofChange fnMakeHashSpec)

/-- ITS FALSE NEIGHBOUR: 'it returns false'. Refute it at one input. -/
def fnMakeHashWrong : ChangeSpec := { name := "fnMakeHash", fn := fun _ => fun
  | [d] => { results := [.lit (.bool false)], args := [d] }
  | _ => none }
def FnMakeHashWrongFalsely : Prop := fnMakeHashRow.holds Try.pinned (OpenSpec.ofChange fnMakeHashWrong)

/-- 'laws.FnHashValid': WHATEVER THE INPUT: true; the input reads as it did. -/
def fnHashValidSpec : ChangeSpec := { name := "fnHashValid", fn := fun _ => fun
  | [d] => { results := [.lit (.bool true)], args := [d] }
  | _ => none }
def fnHashValidRow : OpenClaim := { program := "ytjlgnbdncbcnjaa", sum := "f0597a9fffbc29710b2bc5e6b0e5856cadbf9319e4022fdd67b369242fc3d40c", func := "loop.example/objectlinker/laws.FnHashValid", spec := "fnHashValid", unfollowed := true, recurses := true, apart := false }
def FnHashValidSaid : Prop := fnHashValidRow.holds Try.pinned (OpenSpec.ofChange fnHashValidSpec)

/-- ITS FALSE NEIGHBOUR: 'it returns false'. Refute it at one input. -/
def fnHashValidWrong : ChangeSpec := { name := "fnHashValid", fn := fun _ => fun
  | [d] => { results := [.lit (.bool false)], args := [d] }
  | _ => none }
def FnHashValidWrongFalsely : Prop := fnHashValidRow.holds Try.pinned (OpenSpec.ofChange fnHashValidWrong)

/-- 'laws.FnFindHash': WHATEVER THE INPUT: true; the input reads as it did. -/
def fnFindHashSpec : ChangeSpec := { name := "fnFindHash", fn := fun _ => fun
  | [d] => { results := [.lit (.bool true)], args := [d] }
  | _ => none }
def fnFindHashRow : OpenClaim := { program := "ytjlgnbdncbcnjaa", sum := "f0597a9fffbc29710b2bc5e6b0e5856cadbf9319e4022fdd67b369242fc3d40c", func := "loop.example/objectlinker/laws.FnFindHash", spec := "fnFindHash", unfollowed := true, recurses := true, apart := false }
def FnFindHashSaid : Prop := fnFindHashRow.holds Try.pinned (OpenSpec.ofChange fnFindHashSpec)

/-- ITS FALSE NEIGHBOUR: 'it returns false'. Refute it at one input. -/
def fnFindHashWrong : ChangeSpec := { name := "fnFindHash", fn := fun _ => fun
  | [d] => { results := [.lit (.bool false)], args := [d] }
  | _ => none }
def FnFindHashWrongFalsely : Prop := fnFindHashRow.holds Try.pinned (OpenSpec.ofChange fnFindHashWrong)

/-- 'laws.FnExactFindHash': WHATEVER THE INPUT: true; the input reads as it did. -/
def fnExactFindHashSpec : ChangeSpec := { name := "fnExactFindHash", fn := fun _ => fun
  | [d1, d2] => { results := [.lit (.bool true)], args := [d1, d2] }
  | _ => none }
def fnExactFindHashRow : OpenClaim := { program := "ytjlgnbdncbcnjaa", sum := "f0597a9fffbc29710b2bc5e6b0e5856cadbf9319e4022fdd67b369242fc3d40c", func := "loop.example/objectlinker/laws.FnExactFindHash", spec := "fnExactFindHash", unfollowed := true, recurses := true, apart := false }
def FnExactFindHashSaid : Prop := fnExactFindHashRow.holds Try.pinned (OpenSpec.ofChange fnExactFindHashSpec)

/-- ITS FALSE NEIGHBOUR: 'it returns false'. Refute it at one input. -/
def fnExactFindHashWrong : ChangeSpec := { name := "fnExactFindHash", fn := fun _ => fun
  | [d1, d2] => { results := [.lit (.bool false)], args := [d1, d2] }
  | _ => none }
def FnExactFindHashWrongFalsely : Prop := fnExactFindHashRow.holds Try.pinned (OpenSpec.ofChange fnExactFindHashWrong)

/- THE SECOND FORM. 'bulk': how many values and letters a reading holds, each counted each time it is reached (what is shared counts as often as it is met; a slice's spare places count too). A statement '..UptoSaid' is the law's where the arguments, and the package variables that the reading takes, are together of bulk at most 1048576: NARROWER than '..Said'. Prove '..Said' where nothing that the law and all that it calls make is longer than what came in: it says more and counts as full. Else prove '..UptoSaid'. A law counts once. -/
mutual
def uptoBulk {H : Type} : DataW H → Nat
  | .lit (.string bytes) => bytes.length + 1
  | .lit _ => 1
  | .nil => 1
  | .ptr d => uptoBulk d + 1
  | .slice elems spare => uptoBulkAll elems + uptoBulkAll spare + 1
  | .agg parts => uptoBulkAll parts + 1
  | .iface _ d => uptoBulk d + 1
  | .map entries => uptoBulkEntries entries + 1
  | .held _ => 1
def uptoBulkAll {H : Type} : List (DataW H) → Nat
  | [] => 0
  | d :: r => uptoBulk d + uptoBulkAll r
def uptoBulkEntries {H : Type} : List (Lit × DataW H) → Nat
  | [] => 0
  | x :: r => uptoBulkEntry x + uptoBulkEntries r
def uptoBulkEntry {H : Type} : Lit × DataW H → Nat
  | (.string bytes, d) => bytes.length + uptoBulk d + 1
  | (_, d) => uptoBulk d + 1
 end
def uptoSmall : (H : Type) → List (DataW H) → Bool := fun _ ds => decide (uptoBulkAll ds ≤ 1048576)
def OpenSpec.upto (s : _root_.Go.ChangeSpec) : _root_.Go.OpenSpec := { _root_.Go.OpenSpec.ofChange s with cond := some uptoSmall }

/-- 'laws.FnExactMakeHash', WHERE WHAT IT READS IS OF BULK AT MOST 1048576: true; the input reads as it did. -/
def fnExactMakeHashUptoRow : OpenClaim := { program := "ytjlgnbdncbcnjaa", sum := "f0597a9fffbc29710b2bc5e6b0e5856cadbf9319e4022fdd67b369242fc3d40c", func := "loop.example/objectlinker/laws.FnExactMakeHash", spec := "fnExactMakeHash", unfollowed := true, recurses := true, apart := false, narrowed := true }
def FnExactMakeHashUptoSaid : Prop := fnExactMakeHashUptoRow.holds Try.pinned (OpenSpec.upto fnExactMakeHashSpec)

/-- 'laws.FnExactHashValid', WHERE WHAT IT READS IS OF BULK AT MOST 1048576: true; the input reads as it did. -/
def fnExactHashValidUptoRow : OpenClaim := { program := "ytjlgnbdncbcnjaa", sum := "f0597a9fffbc29710b2bc5e6b0e5856cadbf9319e4022fdd67b369242fc3d40c", func := "loop.example/objectlinker/laws.FnExactHashValid", spec := "fnExactHashValid", unfollowed := true, recurses := true, apart := false, narrowed := true }
def FnExactHashValidUptoSaid : Prop := fnExactHashValidUptoRow.holds Try.pinned (OpenSpec.upto fnExactHashValidSpec)

/-- 'laws.FnMakeHash', WHERE WHAT IT READS IS OF BULK AT MOST 1048576: true; the input reads as it did. -/
def fnMakeHashUptoRow : OpenClaim := { program := "ytjlgnbdncbcnjaa", sum := "f0597a9fffbc29710b2bc5e6b0e5856cadbf9319e4022fdd67b369242fc3d40c", func := "loop.example/objectlinker/laws.FnMakeHash", spec := "fnMakeHash", unfollowed := true, recurses := true, apart := false, narrowed := true }
def FnMakeHashUptoSaid : Prop := fnMakeHashUptoRow.holds Try.pinned (OpenSpec.upto fnMakeHashSpec)

/-- 'laws.FnHashValid', WHERE WHAT IT READS IS OF BULK AT MOST 1048576: true; the input reads as it did. -/
def fnHashValidUptoRow : OpenClaim := { program := "ytjlgnbdncbcnjaa", sum := "f0597a9fffbc29710b2bc5e6b0e5856cadbf9319e4022fdd67b369242fc3d40c", func := "loop.example/objectlinker/laws.FnHashValid", spec := "fnHashValid", unfollowed := true, recurses := true, apart := false, narrowed := true }
def FnHashValidUptoSaid : Prop := fnHashValidUptoRow.holds Try.pinned (OpenSpec.upto fnHashValidSpec)

/-- 'laws.FnFindHash', WHERE WHAT IT READS IS OF BULK AT MOST 1048576: true; the input reads as it did. -/
def fnFindHashUptoRow : OpenClaim := { program := "ytjlgnbdncbcnjaa", sum := "f0597a9fffbc29710b2bc5e6b0e5856cadbf9319e4022fdd67b369242fc3d40c", func := "loop.example/objectlinker/laws.FnFindHash", spec := "fnFindHash", unfollowed := true, recurses := true, apart := false, narrowed := true }
def FnFindHashUptoSaid : Prop := fnFindHashUptoRow.holds Try.pinned (OpenSpec.upto fnFindHashSpec)

/-- 'laws.FnExactFindHash', WHERE WHAT IT READS IS OF BULK AT MOST 1048576: true; the input reads as it did. -/
def fnExactFindHashUptoRow : OpenClaim := { program := "ytjlgnbdncbcnjaa", sum := "f0597a9fffbc29710b2bc5e6b0e5856cadbf9319e4022fdd67b369242fc3d40c", func := "loop.example/objectlinker/laws.FnExactFindHash", spec := "fnExactFindHash", unfollowed := true, recurses := true, apart := false, narrowed := true }
def FnExactFindHashUptoSaid : Prop := fnExactFindHashUptoRow.holds Try.pinned (OpenSpec.upto fnExactFindHashSpec)

end Rows
end Go.Proofs.Ytjlgnbdncbcnjaa
