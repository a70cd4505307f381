/-
  No cell of these rows narrows 'for every input' (looked for: loops, veiled, ifaces, maps, wideKeys, modest, calm, conditions, laid).
  DERIVED. THE GIVEN ROWS OF THIS SEAT. 9 by the template 'for every input the law returns true; each argument reads behind the call as it read before'; 0 by the template 'total and deterministic' (their statements: YtfdngmkmeeaeeaaGreatTotals.lean).
  GIVEN WITH THE SEED: the statements are not yours to turn. If you find one false, say at which input.
  Laid BY PROGRAM, IN A SANDBOX (cutbox-rows.mjs): the forced cells as the released guide's own fill.sh prints them over the translation 1c3e65c71b20a1ce… (all of the seat's roots in one cut). By AI agents, Wed Nov 11 2026. No macro, syntax, notation, axiom, sorry.
-/
import Derived.Test.YtfdngmkmeeaeeaaGreatChecked
import GoSem.Claim
import GoSem.ClaimJoined
import GoSem.ClaimMapViews
import Derived.JoinedTies
import Derived.KernelRfl
namespace Go.Proofs.YtfdngmkmeeaeeaaGreat
/- THE CELL 'sum', in the pinned program and in every row, IS THE sha256 OF THE DUMP (.gsa) THAT YtfdngmkmeeaeeaaGreatProg.lean LOADS. Nothing in Lean hashes anything: it is a label: what it is worth is what the hold of that sum in a sandbox is worth. -/
noncomputable def Tryz.pinned : Pinned := { name := "ytfdngmkmeeaeeaagreat", sum := "1c3e65c71b20a1cea39587494e4722559cde1919e47ed9d6efe5b695a6bcbacd", checked := Tryz.checked }
namespace Rows
def none {H : Type} : Left H := { results := [], args := [] }

/-- 'laws.FnExactLink': WHATEVER THE INPUT: true; the input reads as it did. -/
def fnExactLinkSpec : ChangeSpec := { name := "fnExactLink", fn := fun _ => fun
  | [d1, d2] => { results := [.lit (.bool true)], args := [d1, d2] }
  | _ => none }
def fnExactLinkRow : OpenClaim := { program := "ytfdngmkmeeaeeaagreat", sum := "1c3e65c71b20a1cea39587494e4722559cde1919e47ed9d6efe5b695a6bcbacd", func := "loop.example/objectlinker/laws.FnExactLink", spec := "fnExactLink", unfollowed := true, recurses := true, apart := false }
def FnExactLinkSaid : Prop := fnExactLinkRow.holds Tryz.pinned (OpenSpec.ofChange fnExactLinkSpec)

/-- ITS FALSE NEIGHBOUR: 'it returns false'. Refute it at one input. -/
def fnExactLinkWrong : ChangeSpec := { name := "fnExactLink", fn := fun _ => fun
  | [d1, d2] => { results := [.lit (.bool false)], args := [d1, d2] }
  | _ => none }
def FnExactLinkWrongFalsely : Prop := fnExactLinkRow.holds Tryz.pinned (OpenSpec.ofChange fnExactLinkWrong)

/-- 'laws.FnExactMemoryOf': WHATEVER THE INPUT: true; the input reads as it did. -/
def fnExactMemoryOfSpec : ChangeSpec := { name := "fnExactMemoryOf", fn := fun _ => fun
  | [d1, d2] => { results := [.lit (.bool true)], args := [d1, d2] }
  | _ => none }
def fnExactMemoryOfRow : OpenClaim := { program := "ytfdngmkmeeaeeaagreat", sum := "1c3e65c71b20a1cea39587494e4722559cde1919e47ed9d6efe5b695a6bcbacd", func := "loop.example/objectlinker/laws.FnExactMemoryOf", spec := "fnExactMemoryOf", unfollowed := true, recurses := true, apart := false }
def FnExactMemoryOfSaid : Prop := fnExactMemoryOfRow.holds Tryz.pinned (OpenSpec.ofChange fnExactMemoryOfSpec)

/-- ITS FALSE NEIGHBOUR: 'it returns false'. Refute it at one input. -/
def fnExactMemoryOfWrong : ChangeSpec := { name := "fnExactMemoryOf", fn := fun _ => fun
  | [d1, d2] => { results := [.lit (.bool false)], args := [d1, d2] }
  | _ => none }
def FnExactMemoryOfWrongFalsely : Prop := fnExactMemoryOfRow.holds Tryz.pinned (OpenSpec.ofChange fnExactMemoryOfWrong)

/-- 'laws.FnExactLinkArchive': WHATEVER THE INPUT: true; the input reads as it did. -/
def fnExactLinkArchiveSpec : ChangeSpec := { name := "fnExactLinkArchive", fn := fun _ => fun
  | [d1, d2, d3] => { results := [.lit (.bool true)], args := [d1, d2, d3] }
  | _ => none }
def fnExactLinkArchiveRow : OpenClaim := { program := "ytfdngmkmeeaeeaagreat", sum := "1c3e65c71b20a1cea39587494e4722559cde1919e47ed9d6efe5b695a6bcbacd", func := "loop.example/objectlinker/laws.FnExactLinkArchive", spec := "fnExactLinkArchive", unfollowed := true, recurses := true, apart := false }
def FnExactLinkArchiveSaid : Prop := fnExactLinkArchiveRow.holds Tryz.pinned (OpenSpec.ofChange fnExactLinkArchiveSpec)

/-- ITS FALSE NEIGHBOUR: 'it returns false'. Refute it at one input. -/
def fnExactLinkArchiveWrong : ChangeSpec := { name := "fnExactLinkArchive", fn := fun _ => fun
  | [d1, d2, d3] => { results := [.lit (.bool false)], args := [d1, d2, d3] }
  | _ => none }
def FnExactLinkArchiveWrongFalsely : Prop := fnExactLinkArchiveRow.holds Tryz.pinned (OpenSpec.ofChange fnExactLinkArchiveWrong)

/-- 'laws.FnStripLocals': WHATEVER THE INPUT: true; the input reads as it did. -/
def fnStripLocalsSpec : ChangeSpec := { name := "fnStripLocals", fn := fun _ => fun
  | [d] => { results := [.lit (.bool true)], args := [d] }
  | _ => none }
def fnStripLocalsRow : OpenClaim := { program := "ytfdngmkmeeaeeaagreat", sum := "1c3e65c71b20a1cea39587494e4722559cde1919e47ed9d6efe5b695a6bcbacd", func := "loop.example/objectlinker/laws.FnStripLocals", spec := "fnStripLocals", unfollowed := true, recurses := true, apart := false }
def FnStripLocalsSaid : Prop := fnStripLocalsRow.holds Tryz.pinned (OpenSpec.ofChange fnStripLocalsSpec)

/-- ITS FALSE NEIGHBOUR: 'it returns false'. Refute it at one input. -/
def fnStripLocalsWrong : ChangeSpec := { name := "fnStripLocals", fn := fun _ => fun
  | [d] => { results := [.lit (.bool false)], args := [d] }
  | _ => none }
def FnStripLocalsWrongFalsely : Prop := fnStripLocalsRow.holds Tryz.pinned (OpenSpec.ofChange fnStripLocalsWrong)

/-- 'laws.FnStripWanted': WHATEVER THE INPUT: true; the input reads as it did. -/
def fnStripWantedSpec : ChangeSpec := { name := "fnStripWanted", fn := fun _ => fun
  | [d] => { results := [.lit (.bool true)], args := [d] }
  | _ => none }
def fnStripWantedRow : OpenClaim := { program := "ytfdngmkmeeaeeaagreat", sum := "1c3e65c71b20a1cea39587494e4722559cde1919e47ed9d6efe5b695a6bcbacd", func := "loop.example/objectlinker/laws.FnStripWanted", spec := "fnStripWanted", unfollowed := true, recurses := true, apart := false }
def FnStripWantedSaid : Prop := fnStripWantedRow.holds Tryz.pinned (OpenSpec.ofChange fnStripWantedSpec)

/-- ITS FALSE NEIGHBOUR: 'it returns false'. Refute it at one input. -/
def fnStripWantedWrong : ChangeSpec := { name := "fnStripWanted", fn := fun _ => fun
  | [d] => { results := [.lit (.bool false)], args := [d] }
  | _ => none }
def FnStripWantedWrongFalsely : Prop := fnStripWantedRow.holds Tryz.pinned (OpenSpec.ofChange fnStripWantedWrong)

/-- 'laws.FnLinkMore': WHATEVER THE INPUT: true; the input reads as it did. -/
def fnLinkMoreSpec : ChangeSpec := { name := "fnLinkMore", fn := fun _ => fun
  | [d] => { results := [.lit (.bool true)], args := [d] }
  | _ => none }
def fnLinkMoreRow : OpenClaim := { program := "ytfdngmkmeeaeeaagreat", sum := "1c3e65c71b20a1cea39587494e4722559cde1919e47ed9d6efe5b695a6bcbacd", func := "loop.example/objectlinker/laws.FnLinkMore", spec := "fnLinkMore", unfollowed := true, recurses := true, apart := false }
def FnLinkMoreSaid : Prop := fnLinkMoreRow.holds Tryz.pinned (OpenSpec.ofChange fnLinkMoreSpec)

/-- ITS FALSE NEIGHBOUR: 'it returns false'. Refute it at one input. -/
def fnLinkMoreWrong : ChangeSpec := { name := "fnLinkMore", fn := fun _ => fun
  | [d] => { results := [.lit (.bool false)], args := [d] }
  | _ => none }
def FnLinkMoreWrongFalsely : Prop := fnLinkMoreRow.holds Tryz.pinned (OpenSpec.ofChange fnLinkMoreWrong)

/-- 'laws.FnLink': WHATEVER THE INPUT: true; the input reads as it did. -/
def fnLinkSpec : ChangeSpec := { name := "fnLink", fn := fun _ => fun
  | [d] => { results := [.lit (.bool true)], args := [d] }
  | _ => none }
def fnLinkRow : OpenClaim := { program := "ytfdngmkmeeaeeaagreat", sum := "1c3e65c71b20a1cea39587494e4722559cde1919e47ed9d6efe5b695a6bcbacd", func := "loop.example/objectlinker/laws.FnLink", spec := "fnLink", unfollowed := true, recurses := true, apart := false }
def FnLinkSaid : Prop := fnLinkRow.holds Tryz.pinned (OpenSpec.ofChange fnLinkSpec)

/-- ITS FALSE NEIGHBOUR: 'it returns false'. Refute it at one input. -/
def fnLinkWrong : ChangeSpec := { name := "fnLink", fn := fun _ => fun
  | [d] => { results := [.lit (.bool false)], args := [d] }
  | _ => none }
def FnLinkWrongFalsely : Prop := fnLinkRow.holds Tryz.pinned (OpenSpec.ofChange fnLinkWrong)

/-- 'laws.FnMemoryOf': WHATEVER THE INPUT: true; the input reads as it did. -/
def fnMemoryOfSpec : ChangeSpec := { name := "fnMemoryOf", fn := fun _ => fun
  | [d] => { results := [.lit (.bool true)], args := [d] }
  | _ => none }
def fnMemoryOfRow : OpenClaim := { program := "ytfdngmkmeeaeeaagreat", sum := "1c3e65c71b20a1cea39587494e4722559cde1919e47ed9d6efe5b695a6bcbacd", func := "loop.example/objectlinker/laws.FnMemoryOf", spec := "fnMemoryOf", unfollowed := true, recurses := true, apart := false }
def FnMemoryOfSaid : Prop := fnMemoryOfRow.holds Tryz.pinned (OpenSpec.ofChange fnMemoryOfSpec)

/-- ITS FALSE NEIGHBOUR: 'it returns false'. Refute it at one input. -/
def fnMemoryOfWrong : ChangeSpec := { name := "fnMemoryOf", fn := fun _ => fun
  | [d] => { results := [.lit (.bool false)], args := [d] }
  | _ => none }
def FnMemoryOfWrongFalsely : Prop := fnMemoryOfRow.holds Tryz.pinned (OpenSpec.ofChange fnMemoryOfWrong)

/-- 'laws.FnLinkArchive': WHATEVER THE INPUT: true; the input reads as it did. -/
def fnLinkArchiveSpec : ChangeSpec := { name := "fnLinkArchive", fn := fun _ => fun
  | [d] => { results := [.lit (.bool true)], args := [d] }
  | _ => none }
def fnLinkArchiveRow : OpenClaim := { program := "ytfdngmkmeeaeeaagreat", sum := "1c3e65c71b20a1cea39587494e4722559cde1919e47ed9d6efe5b695a6bcbacd", func := "loop.example/objectlinker/laws.FnLinkArchive", spec := "fnLinkArchive", unfollowed := true, recurses := true, apart := false }
def FnLinkArchiveSaid : Prop := fnLinkArchiveRow.holds Tryz.pinned (OpenSpec.ofChange fnLinkArchiveSpec)

/-- ITS FALSE NEIGHBOUR: 'it returns false'. Refute it at one input. -/
def fnLinkArchiveWrong : ChangeSpec := { name := "fnLinkArchive", fn := fun _ => fun
  | [d] => { results := [.lit (.bool false)], args := [d] }
  | _ => none }
def FnLinkArchiveWrongFalsely : Prop := fnLinkArchiveRow.holds Tryz.pinned (OpenSpec.ofChange fnLinkArchiveWrong)

/- THE SECOND FORM. 'bulk': how many values and letters a reading holds, each counted each time it is reached (what is shared counts as often as it is met; a slice's spare places count too). A statement '..UptoSaid' is the law's where the arguments, and the package variables that the reading takes, are together of bulk at most 1048576: NARROWER than '..Said'. Prove '..Said' where nothing that the law and all that it calls make is longer than what came in: it says more and counts as full. Else prove '..UptoSaid'. A law counts once. -/
mutual
def uptoBulk {H : Type} : DataW H → Nat
  | .lit (.string bytes) => bytes.length + 1
  | .lit _ => 1
  | .nil => 1
  | .ptr d => uptoBulk d + 1
  | .slice elems spare => uptoBulkAll elems + uptoBulkAll spare + 1
  | .agg parts => uptoBulkAll parts + 1
  | .iface _ d => uptoBulk d + 1
  | .map entries => uptoBulkEntries entries + 1
  | .held _ => 1
def uptoBulkAll {H : Type} : List (DataW H) → Nat
  | [] => 0
  | d :: r => uptoBulk d + uptoBulkAll r
def uptoBulkEntries {H : Type} : List (Lit × DataW H) → Nat
  | [] => 0
  | x :: r => uptoBulkEntry x + uptoBulkEntries r
def uptoBulkEntry {H : Type} : Lit × DataW H → Nat
  | (.string bytes, d) => bytes.length + uptoBulk d + 1
  | (_, d) => uptoBulk d + 1
 end
def uptoSmall : (H : Type) → List (DataW H) → Bool := fun _ ds => decide (uptoBulkAll ds ≤ 1048576)
def OpenSpec.upto (s : _root_.Go.ChangeSpec) : _root_.Go.OpenSpec := { _root_.Go.OpenSpec.ofChange s with cond := some uptoSmall }

/-- 'laws.FnExactLink', WHERE WHAT IT READS IS OF BULK AT MOST 1048576: true; the input reads as it did. -/
def fnExactLinkUptoRow : OpenClaim := { program := "ytfdngmkmeeaeeaagreat", sum := "1c3e65c71b20a1cea39587494e4722559cde1919e47ed9d6efe5b695a6bcbacd", func := "loop.example/objectlinker/laws.FnExactLink", spec := "fnExactLink", unfollowed := true, recurses := true, apart := false, narrowed := true }
def FnExactLinkUptoSaid : Prop := fnExactLinkUptoRow.holds Tryz.pinned (OpenSpec.upto fnExactLinkSpec)

/-- 'laws.FnExactMemoryOf', WHERE WHAT IT READS IS OF BULK AT MOST 1048576: true; the input reads as it did. -/
def fnExactMemoryOfUptoRow : OpenClaim := { program := "ytfdngmkmeeaeeaagreat", sum := "1c3e65c71b20a1cea39587494e4722559cde1919e47ed9d6efe5b695a6bcbacd", func := "loop.example/objectlinker/laws.FnExactMemoryOf", spec := "fnExactMemoryOf", unfollowed := true, recurses := true, apart := false, narrowed := true }
def FnExactMemoryOfUptoSaid : Prop := fnExactMemoryOfUptoRow.holds Tryz.pinned (OpenSpec.upto fnExactMemoryOfSpec)

/-- 'laws.FnExactLinkArchive', WHERE WHAT IT READS IS OF BULK AT MOST 1048576: true; the input reads as it did. -/
def fnExactLinkArchiveUptoRow : OpenClaim := { program := "ytfdngmkmeeaeeaagreat", sum := "1c3e65c71b20a1cea39587494e4722559cde1919e47ed9d6efe5b695a6bcbacd", func := "loop.example/objectlinker/laws.FnExactLinkArchive", spec := "fnExactLinkArchive", unfollowed := true, recurses := true, apart := false, narrowed := true }
def FnExactLinkArchiveUptoSaid : Prop := fnExactLinkArchiveUptoRow.holds Tryz.pinned (OpenSpec.upto fnExactLinkArchiveSpec)

/-- 'laws.FnStripLocals', WHERE WHAT IT READS IS OF BULK AT MOST 1048576: true; the input reads as it did. -/
def fnStripLocalsUptoRow : OpenClaim := { program := "ytfdngmkmeeaeeaagreat", sum := "1c3e65c71b20a1cea39587494e4722559cde1919e47ed9d6efe5b695a6bcbacd", func := "loop.example/objectlinker/laws.FnStripLocals", spec := "fnStripLocals", unfollowed := true, recurses := true, apart := false, narrowed := true }
def FnStripLocalsUptoSaid : Prop := fnStripLocalsUptoRow.holds Tryz.pinned (OpenSpec.upto fnStripLocalsSpec)

/-- 'laws.FnStripWanted', WHERE WHAT IT READS IS OF BULK AT MOST 1048576: true; the input reads as it did. -/
def fnStripWantedUptoRow : OpenClaim := { program := "ytfdngmkmeeaeeaagreat", sum := "1c3e65c71b20a1cea39587494e4722559cde1919e47ed9d6efe5b695a6bcbacd", func := "loop.example/objectlinker/laws.FnStripWanted", spec := "fnStripWanted", unfollowed := true, recurses := true, apart := false, narrowed := true }
def FnStripWantedUptoSaid : Prop := fnStripWantedUptoRow.holds Tryz.pinned (OpenSpec.upto fnStripWantedSpec)

/-- 'laws.FnLinkMore', WHERE WHAT IT READS IS OF BULK AT MOST 1048576: true; the input reads as it did. -/
def fnLinkMoreUptoRow : OpenClaim := { program := "ytfdngmkmeeaeeaagreat", sum := "1c3e65c71b20a1cea39587494e4722559cde1919e47ed9d6efe5b695a6bcbacd", func := "loop.example/objectlinker/laws.FnLinkMore", spec := "fnLinkMore", unfollowed := true, recurses := true, apart := false, narrowed := true }
def FnLinkMoreUptoSaid : Prop := fnLinkMoreUptoRow.holds Tryz.pinned (OpenSpec.upto fnLinkMoreSpec)

/-- 'laws.FnLink', WHERE WHAT IT READS IS OF BULK AT MOST 1048576: true; the input reads as it did. -/
def fnLinkUptoRow : OpenClaim := { program := "ytfdngmkmeeaeeaagreat", sum := "1c3e65c71b20a1cea39587494e4722559cde1919e47ed9d6efe5b695a6bcbacd", func := "loop.example/objectlinker/laws.FnLink", spec := "fnLink", unfollowed := true, recurses := true, apart := false, narrowed := true }
def FnLinkUptoSaid : Prop := fnLinkUptoRow.holds Tryz.pinned (OpenSpec.upto fnLinkSpec)

/-- 'laws.FnMemoryOf', WHERE WHAT IT READS IS OF BULK AT MOST 1048576: true; the input reads as it did. -/
def fnMemoryOfUptoRow : OpenClaim := { program := "ytfdngmkmeeaeeaagreat", sum := "1c3e65c71b20a1cea39587494e4722559cde1919e47ed9d6efe5b695a6bcbacd", func := "loop.example/objectlinker/laws.FnMemoryOf", spec := "fnMemoryOf", unfollowed := true, recurses := true, apart := false, narrowed := true }
def FnMemoryOfUptoSaid : Prop := fnMemoryOfUptoRow.holds Tryz.pinned (OpenSpec.upto fnMemoryOfSpec)

/-- 'laws.FnLinkArchive', WHERE WHAT IT READS IS OF BULK AT MOST 1048576: true; the input reads as it did. -/
def fnLinkArchiveUptoRow : OpenClaim := { program := "ytfdngmkmeeaeeaagreat", sum := "1c3e65c71b20a1cea39587494e4722559cde1919e47ed9d6efe5b695a6bcbacd", func := "loop.example/objectlinker/laws.FnLinkArchive", spec := "fnLinkArchive", unfollowed := true, recurses := true, apart := false, narrowed := true }
def FnLinkArchiveUptoSaid : Prop := fnLinkArchiveUptoRow.holds Tryz.pinned (OpenSpec.upto fnLinkArchiveSpec)

end Rows
end Go.Proofs.YtfdngmkmeeaeeaaGreat
