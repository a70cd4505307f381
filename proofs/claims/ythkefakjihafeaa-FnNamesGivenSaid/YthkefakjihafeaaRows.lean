/-
  No cell of these rows narrows 'for every input' (looked for: loops, veiled, ifaces, maps, wideKeys, modest, calm, conditions, laid).
  DERIVED. THE GIVEN ROWS OF THIS SEAT. 7 by the template 'for every input the law returns true; each argument reads behind the call as it read before'; 0 by the template 'total and deterministic' (their statements: YthkefakjihafeaaTotals.lean).
  GIVEN WITH THE SEED: the statements are not yours to turn. If you find one false, say at which input.
  Laid BY PROGRAM, IN A SANDBOX (cutbox-rows.mjs): the forced cells as the released guide's own fill.sh prints them over the translation ec61f228964a3ad3… (all of the seat's roots in one cut). By AI agents, Wed Nov 11 2026. No macro, syntax, notation, axiom, sorry.
-/
import Derived.Test.YthkefakjihafeaaChecked
import GoSem.Claim
import GoSem.ClaimJoined
import GoSem.ClaimMapViews
import Derived.JoinedTies
import Derived.KernelRfl
namespace Go.Proofs.Ythkefakjihafeaa
/- THE CELL 'sum', in the pinned program and in every row, IS THE sha256 OF THE DUMP (.gsa) THAT YthkefakjihafeaaProg.lean LOADS. Nothing in Lean hashes anything: it is a label: what it is worth is what the hold of that sum in a sandbox is worth. -/
noncomputable def Try.pinned : Pinned := { name := "ythkefakjihafeaa", sum := "ec61f228964a3ad38f5ccdc04c006b30373849554ba76eea7d8617e97ab1e93f", checked := Try.checked }
namespace Rows
def none {H : Type} : Left H := { results := [], args := [] }

/-- 'laws.FnNamesGiven': WHATEVER THE INPUT: true; the input reads as it did. -/
def fnNamesGivenSpec : ChangeSpec := { name := "fnNamesGiven", fn := fun _ => fun
  | [d] => { results := [.lit (.bool true)], args := [d] }
  | _ => none }
def fnNamesGivenRow : OpenClaim := { program := "ythkefakjihafeaa", sum := "ec61f228964a3ad38f5ccdc04c006b30373849554ba76eea7d8617e97ab1e93f", func := "loop.example/objectlinker/laws.FnNamesGiven", spec := "fnNamesGiven", unfollowed := true, recurses := true, apart := false }
def FnNamesGivenSaid : Prop := fnNamesGivenRow.holds Try.pinned (OpenSpec.ofChange fnNamesGivenSpec)

/-- ITS FALSE NEIGHBOUR: 'it returns false'. Refute it at one input. -/
def fnNamesGivenWrong : ChangeSpec := { name := "fnNamesGiven", fn := fun _ => fun
  | [d] => { results := [.lit (.bool false)], args := [d] }
  | _ => none }
def FnNamesGivenWrongFalsely : Prop := fnNamesGivenRow.holds Try.pinned (OpenSpec.ofChange fnNamesGivenWrong)

/-- 'laws.FnNamesTwice': WHATEVER THE INPUT: true; the input reads as it did. -/
def fnNamesTwiceSpec : ChangeSpec := { name := "fnNamesTwice", fn := fun _ => fun
  | [d] => { results := [.lit (.bool true)], args := [d] }
  | _ => none }
def fnNamesTwiceRow : OpenClaim := { program := "ythkefakjihafeaa", sum := "ec61f228964a3ad38f5ccdc04c006b30373849554ba76eea7d8617e97ab1e93f", func := "loop.example/objectlinker/laws.FnNamesTwice", spec := "fnNamesTwice", unfollowed := true, recurses := true, apart := false }
def FnNamesTwiceSaid : Prop := fnNamesTwiceRow.holds Try.pinned (OpenSpec.ofChange fnNamesTwiceSpec)

/-- ITS FALSE NEIGHBOUR: 'it returns false'. Refute it at one input. -/
def fnNamesTwiceWrong : ChangeSpec := { name := "fnNamesTwice", fn := fun _ => fun
  | [d] => { results := [.lit (.bool false)], args := [d] }
  | _ => none }
def FnNamesTwiceWrongFalsely : Prop := fnNamesTwiceRow.holds Try.pinned (OpenSpec.ofChange fnNamesTwiceWrong)

/-- 'laws.FnNamesMissing': WHATEVER THE INPUT: true; the input reads as it did. -/
def fnNamesMissingSpec : ChangeSpec := { name := "fnNamesMissing", fn := fun _ => fun
  | [d] => { results := [.lit (.bool true)], args := [d] }
  | _ => none }
def fnNamesMissingRow : OpenClaim := { program := "ythkefakjihafeaa", sum := "ec61f228964a3ad38f5ccdc04c006b30373849554ba76eea7d8617e97ab1e93f", func := "loop.example/objectlinker/laws.FnNamesMissing", spec := "fnNamesMissing", unfollowed := true, recurses := true, apart := false }
def FnNamesMissingSaid : Prop := fnNamesMissingRow.holds Try.pinned (OpenSpec.ofChange fnNamesMissingSpec)

/-- ITS FALSE NEIGHBOUR: 'it returns false'. Refute it at one input. -/
def fnNamesMissingWrong : ChangeSpec := { name := "fnNamesMissing", fn := fun _ => fun
  | [d] => { results := [.lit (.bool false)], args := [d] }
  | _ => none }
def FnNamesMissingWrongFalsely : Prop := fnNamesMissingRow.holds Try.pinned (OpenSpec.ofChange fnNamesMissingWrong)

/-- 'laws.FnTakeEnough': WHATEVER THE INPUT: true; the input reads as it did. -/
def fnTakeEnoughSpec : ChangeSpec := { name := "fnTakeEnough", fn := fun _ => fun
  | [d] => { results := [.lit (.bool true)], args := [d] }
  | _ => none }
def fnTakeEnoughRow : OpenClaim := { program := "ythkefakjihafeaa", sum := "ec61f228964a3ad38f5ccdc04c006b30373849554ba76eea7d8617e97ab1e93f", func := "loop.example/objectlinker/laws.FnTakeEnough", spec := "fnTakeEnough", unfollowed := true, recurses := true, apart := false }
def FnTakeEnoughSaid : Prop := fnTakeEnoughRow.holds Try.pinned (OpenSpec.ofChange fnTakeEnoughSpec)

/-- ITS FALSE NEIGHBOUR: 'it returns false'. Refute it at one input. -/
def fnTakeEnoughWrong : ChangeSpec := { name := "fnTakeEnough", fn := fun _ => fun
  | [d] => { results := [.lit (.bool false)], args := [d] }
  | _ => none }
def FnTakeEnoughWrongFalsely : Prop := fnTakeEnoughRow.holds Try.pinned (OpenSpec.ofChange fnTakeEnoughWrong)

/-- 'laws.FnTakeMembers': WHATEVER THE INPUT: true; the input reads as it did. -/
def fnTakeMembersSpec : ChangeSpec := { name := "fnTakeMembers", fn := fun _ => fun
  | [d] => { results := [.lit (.bool true)], args := [d] }
  | _ => none }
def fnTakeMembersRow : OpenClaim := { program := "ythkefakjihafeaa", sum := "ec61f228964a3ad38f5ccdc04c006b30373849554ba76eea7d8617e97ab1e93f", func := "loop.example/objectlinker/laws.FnTakeMembers", spec := "fnTakeMembers", unfollowed := true, recurses := true, apart := false }
def FnTakeMembersSaid : Prop := fnTakeMembersRow.holds Try.pinned (OpenSpec.ofChange fnTakeMembersSpec)

/-- ITS FALSE NEIGHBOUR: 'it returns false'. Refute it at one input. -/
def fnTakeMembersWrong : ChangeSpec := { name := "fnTakeMembers", fn := fun _ => fun
  | [d] => { results := [.lit (.bool false)], args := [d] }
  | _ => none }
def FnTakeMembersWrongFalsely : Prop := fnTakeMembersRow.holds Try.pinned (OpenSpec.ofChange fnTakeMembersWrong)

/-- 'laws.FnExactNamesMissing': WHATEVER THE INPUT: true; the input reads as it did. -/
def fnExactNamesMissingSpec : ChangeSpec := { name := "fnExactNamesMissing", fn := fun _ => fun
  | [d] => { results := [.lit (.bool true)], args := [d] }
  | _ => none }
def fnExactNamesMissingRow : OpenClaim := { program := "ythkefakjihafeaa", sum := "ec61f228964a3ad38f5ccdc04c006b30373849554ba76eea7d8617e97ab1e93f", func := "loop.example/objectlinker/laws.FnExactNamesMissing", spec := "fnExactNamesMissing", unfollowed := true, recurses := true, apart := false }
def FnExactNamesMissingSaid : Prop := fnExactNamesMissingRow.holds Try.pinned (OpenSpec.ofChange fnExactNamesMissingSpec)

/-- ITS FALSE NEIGHBOUR: 'it returns false'. Refute it at one input. -/
def fnExactNamesMissingWrong : ChangeSpec := { name := "fnExactNamesMissing", fn := fun _ => fun
  | [d] => { results := [.lit (.bool false)], args := [d] }
  | _ => none }
def FnExactNamesMissingWrongFalsely : Prop := fnExactNamesMissingRow.holds Try.pinned (OpenSpec.ofChange fnExactNamesMissingWrong)

/-- 'laws.FnExactNamesTwice': WHATEVER THE INPUT: true; the input reads as it did. -/
def fnExactNamesTwiceSpec : ChangeSpec := { name := "fnExactNamesTwice", fn := fun _ => fun
  | [d] => { results := [.lit (.bool true)], args := [d] }
  | _ => none }
def fnExactNamesTwiceRow : OpenClaim := { program := "ythkefakjihafeaa", sum := "ec61f228964a3ad38f5ccdc04c006b30373849554ba76eea7d8617e97ab1e93f", func := "loop.example/objectlinker/laws.FnExactNamesTwice", spec := "fnExactNamesTwice", unfollowed := true, recurses := true, apart := false }
def FnExactNamesTwiceSaid : Prop := fnExactNamesTwiceRow.holds Try.pinned (OpenSpec.ofChange fnExactNamesTwiceSpec)

/-- ITS FALSE NEIGHBOUR: 'it returns false'. Refute it at one input. -/
def fnExactNamesTwiceWrong : ChangeSpec := { name := "fnExactNamesTwice", fn := fun _ => fun
  | [d] => { results := [.lit (.bool false)], args := [d] }
  | _ => none }
def FnExactNamesTwiceWrongFalsely : Prop := fnExactNamesTwiceRow.holds Try.pinned (OpenSpec.ofChange fnExactNamesTwiceWrong)

/- THE SECOND FORM. 'bulk': how many values and letters a reading holds, each counted each time it is reached (what is shared counts as often as it is met; a slice's spare places count too). A statement '..UptoSaid' is the law's where the arguments, and the package variables that the reading takes, are together of bulk at most 1048576: NARROWER than '..Said'. Prove '..Said' where nothing that the law and all that it calls make is longer than what came in: it says more and counts as full. Else prove '..UptoSaid'. A law counts once. -/
mutual
def uptoBulk {H : Type} : DataW H → Nat
  | .lit (.string bytes) => bytes.length + 1
  | .lit _ => 1
  | .nil => 1
  | .ptr d => uptoBulk d + 1
  | .slice elems spare => uptoBulkAll elems + uptoBulkAll spare + 1
  | .agg parts => uptoBulkAll parts + 1
  | .iface _ d => uptoBulk d + 1
  | .map entries => uptoBulkEntries entries + 1
  | .held _ => 1
def uptoBulkAll {H : Type} : List (DataW H) → Nat
  | [] => 0
  | d :: r => uptoBulk d + uptoBulkAll r
def uptoBulkEntries {H : Type} : List (Lit × DataW H) → Nat
  | [] => 0
  | x :: r => uptoBulkEntry x + uptoBulkEntries r
def uptoBulkEntry {H : Type} : Lit × DataW H → Nat
  | (.string bytes, d) => bytes.length + uptoBulk d + 1
  | (_, d) => uptoBulk d + 1
 end
def uptoSmall : (H : Type) → List (DataW H) → Bool := fun _ ds => decide (uptoBulkAll ds ≤ 1048576)
def OpenSpec.upto (s : _root_.Go.ChangeSpec) : _root_.Go.OpenSpec := { _root_.Go.OpenSpec.ofChange s with cond := some uptoSmall }

/-- 'laws.FnNamesGiven', WHERE WHAT IT READS IS OF BULK AT MOST 1048576: true; the input reads as it did. -/
def fnNamesGivenUptoRow : OpenClaim := { program := "ythkefakjihafeaa", sum := "ec61f228964a3ad38f5ccdc04c006b30373849554ba76eea7d8617e97ab1e93f", func := "loop.example/objectlinker/laws.FnNamesGiven", spec := "fnNamesGiven", unfollowed := true, recurses := true, apart := false, narrowed := true }
def FnNamesGivenUptoSaid : Prop := fnNamesGivenUptoRow.holds Try.pinned (OpenSpec.upto fnNamesGivenSpec)

/-- 'laws.FnNamesTwice', WHERE WHAT IT READS IS OF BULK AT MOST 1048576: true; the input reads as it did. -/
def fnNamesTwiceUptoRow : OpenClaim := { program := "ythkefakjihafeaa", sum := "ec61f228964a3ad38f5ccdc04c006b30373849554ba76eea7d8617e97ab1e93f", func := "loop.example/objectlinker/laws.FnNamesTwice", spec := "fnNamesTwice", unfollowed := true, recurses := true, apart := false, narrowed := true }
def FnNamesTwiceUptoSaid : Prop := fnNamesTwiceUptoRow.holds Try.pinned (OpenSpec.upto fnNamesTwiceSpec)

/-- 'laws.FnNamesMissing', WHERE WHAT IT READS IS OF BULK AT MOST 1048576: true; the input reads as it did. -/
def fnNamesMissingUptoRow : OpenClaim := { program := "ythkefakjihafeaa", sum := "ec61f228964a3ad38f5ccdc04c006b30373849554ba76eea7d8617e97ab1e93f", func := "loop.example/objectlinker/laws.FnNamesMissing", spec := "fnNamesMissing", unfollowed := true, recurses := true, apart := false, narrowed := true }
def FnNamesMissingUptoSaid : Prop := fnNamesMissingUptoRow.holds Try.pinned (OpenSpec.upto fnNamesMissingSpec)

/-- 'laws.FnTakeEnough', WHERE WHAT IT READS IS OF BULK AT MOST 1048576: true; the input reads as it did. -/
def fnTakeEnoughUptoRow : OpenClaim := { program := "ythkefakjihafeaa", sum := "ec61f228964a3ad38f5ccdc04c006b30373849554ba76eea7d8617e97ab1e93f", func := "loop.example/objectlinker/laws.FnTakeEnough", spec := "fnTakeEnough", unfollowed := true, recurses := true, apart := false, narrowed := true }
def FnTakeEnoughUptoSaid : Prop := fnTakeEnoughUptoRow.holds Try.pinned (OpenSpec.upto fnTakeEnoughSpec)

/-- 'laws.FnTakeMembers', WHERE WHAT IT READS IS OF BULK AT MOST 1048576: true; the input reads as it did. -/
def fnTakeMembersUptoRow : OpenClaim := { program := "ythkefakjihafeaa", sum := "ec61f228964a3ad38f5ccdc04c006b30373849554ba76eea7d8617e97ab1e93f", func := "loop.example/objectlinker/laws.FnTakeMembers", spec := "fnTakeMembers", unfollowed := true, recurses := true, apart := false, narrowed := true }
def FnTakeMembersUptoSaid : Prop := fnTakeMembersUptoRow.holds Try.pinned (OpenSpec.upto fnTakeMembersSpec)

/-- 'laws.FnExactNamesMissing', WHERE WHAT IT READS IS OF BULK AT MOST 1048576: true; the input reads as it did. -/
def fnExactNamesMissingUptoRow : OpenClaim := { program := "ythkefakjihafeaa", sum := "ec61f228964a3ad38f5ccdc04c006b30373849554ba76eea7d8617e97ab1e93f", func := "loop.example/objectlinker/laws.FnExactNamesMissing", spec := "fnExactNamesMissing", unfollowed := true, recurses := true, apart := false, narrowed := true }
def FnExactNamesMissingUptoSaid : Prop := fnExactNamesMissingUptoRow.holds Try.pinned (OpenSpec.upto fnExactNamesMissingSpec)

/-- 'laws.FnExactNamesTwice', WHERE WHAT IT READS IS OF BULK AT MOST 1048576: true; the input reads as it did. -/
def fnExactNamesTwiceUptoRow : OpenClaim := { program := "ythkefakjihafeaa", sum := "ec61f228964a3ad38f5ccdc04c006b30373849554ba76eea7d8617e97ab1e93f", func := "loop.example/objectlinker/laws.FnExactNamesTwice", spec := "fnExactNamesTwice", unfollowed := true, recurses := true, apart := false, narrowed := true }
def FnExactNamesTwiceUptoSaid : Prop := fnExactNamesTwiceUptoRow.holds Try.pinned (OpenSpec.upto fnExactNamesTwiceSpec)

end Rows
end Go.Proofs.Ythkefakjihafeaa
