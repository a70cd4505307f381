/-
  No cell of these rows narrows 'for every input' (looked for: loops, veiled, ifaces, maps, wideKeys, modest, calm, conditions, laid).
  DERIVED. THE GIVEN ROWS OF THIS SEAT. 3 by the template 'for every input the law returns true; each argument reads behind the call as it read before'; 0 by the template 'total and deterministic' (their statements: YtpgglbnagphgoaaTotals.lean).
  GIVEN WITH THE SEED: the statements are not yours to turn. If you find one false, say at which input.
  Laid BY PROGRAM, IN A SANDBOX (cutbox-rows.mjs): the forced cells as the released guide's own fill.sh prints them over the translation 459cc42651f04cd4… (all of the seat's roots in one cut). By AI agents, Wed Nov 11 2026. No macro, syntax, notation, axiom, sorry.
-/
import Derived.Test.YtpgglbnagphgoaaChecked
import GoSem.Claim
import GoSem.ClaimJoined
import GoSem.ClaimMapViews
import Derived.JoinedTies
import Derived.KernelRfl
namespace Go.Proofs.Ytpgglbnagphgoaa
/- THE CELL 'sum', in the pinned program and in every row, IS THE sha256 OF THE DUMP (.gsa) THAT YtpgglbnagphgoaaProg.lean LOADS. Nothing in Lean hashes anything: it is a label: what it is worth is what the hold of that sum in a sandbox is worth. -/
noncomputable def Try.pinned : Pinned := { name := "ytpgglbnagphgoaa", sum := "459cc42651f04cd4fd090ca50b1c634ce1e30ed75bd7db008599cc1d163cbb44", checked := Try.checked }
namespace Rows
def none {H : Type} : Left H := { results := [], args := [] }

/-- 'laws.FnJoinEmpty': WHATEVER THE INPUT: true; the input reads as it did. -/
def fnJoinEmptySpec : ChangeSpec := { name := "fnJoinEmpty", fn := fun _ => fun
  | [d] => { results := [.lit (.bool true)], args := [d] }
  | _ => none }
def fnJoinEmptyRow : OpenClaim := { program := "ytpgglbnagphgoaa", sum := "459cc42651f04cd4fd090ca50b1c634ce1e30ed75bd7db008599cc1d163cbb44", func := "loop.example/objectlinker/laws.FnJoinEmpty", spec := "fnJoinEmpty", unfollowed := true, recurses := true, apart := false }
def FnJoinEmptySaid : Prop := fnJoinEmptyRow.holds Try.pinned (OpenSpec.ofChange fnJoinEmptySpec)

/-- ITS FALSE NEIGHBOUR: 'it returns false'. Refute it at one input. -/
def fnJoinEmptyWrong : ChangeSpec := { name := "fnJoinEmpty", fn := fun _ => fun
  | [d] => { results := [.lit (.bool false)], args := [d] }
  | _ => none }
def FnJoinEmptyWrongFalsely : Prop := fnJoinEmptyRow.holds Try.pinned (OpenSpec.ofChange fnJoinEmptyWrong)

/-- 'laws.FnKeepLink': WHATEVER THE INPUT: true; the input reads as it did. -/
def fnKeepLinkSpec : ChangeSpec := { name := "fnKeepLink", fn := fun _ => fun
  | [d] => { results := [.lit (.bool true)], args := [d] }
  | _ => none }
def fnKeepLinkRow : OpenClaim := { program := "ytpgglbnagphgoaa", sum := "459cc42651f04cd4fd090ca50b1c634ce1e30ed75bd7db008599cc1d163cbb44", func := "loop.example/objectlinker/laws.FnKeepLink", spec := "fnKeepLink", unfollowed := true, recurses := true, apart := false }
def FnKeepLinkSaid : Prop := fnKeepLinkRow.holds Try.pinned (OpenSpec.ofChange fnKeepLinkSpec)

/-- ITS FALSE NEIGHBOUR: 'it returns false'. Refute it at one input. -/
def fnKeepLinkWrong : ChangeSpec := { name := "fnKeepLink", fn := fun _ => fun
  | [d] => { results := [.lit (.bool false)], args := [d] }
  | _ => none }
def FnKeepLinkWrongFalsely : Prop := fnKeepLinkRow.holds Try.pinned (OpenSpec.ofChange fnKeepLinkWrong)

/-- 'laws.FnExactJoinObjects': WHATEVER THE INPUT: true; the input reads as it did. -/
def fnExactJoinObjectsSpec : ChangeSpec := { name := "fnExactJoinObjects", fn := fun _ => fun
  | [d1, d2] => { results := [.lit (.bool true)], args := [d1, d2] }
  | _ => none }
def fnExactJoinObjectsRow : OpenClaim := { program := "ytpgglbnagphgoaa", sum := "459cc42651f04cd4fd090ca50b1c634ce1e30ed75bd7db008599cc1d163cbb44", func := "loop.example/objectlinker/laws.FnExactJoinObjects", spec := "fnExactJoinObjects", unfollowed := true, recurses := true, apart := false }
def FnExactJoinObjectsSaid : Prop := fnExactJoinObjectsRow.holds Try.pinned (OpenSpec.ofChange fnExactJoinObjectsSpec)

/-- ITS FALSE NEIGHBOUR: 'it returns false'. Refute it at one input. -/
def fnExactJoinObjectsWrong : ChangeSpec := { name := "fnExactJoinObjects", fn := fun _ => fun
  | [d1, d2] => { results := [.lit (.bool false)], args := [d1, d2] }
  | _ => none }
def FnExactJoinObjectsWrongFalsely : Prop := fnExactJoinObjectsRow.holds Try.pinned (OpenSpec.ofChange fnExactJoinObjectsWrong)

/- THE SECOND FORM. 'bulk': how many values and letters a reading holds, each counted each time it is reached (what is shared counts as often as it is met; a slice's spare places count too). A statement '..UptoSaid' is the law's where the arguments, and the package variables that the reading takes, are together of bulk at most 1048576: NARROWER than '..Said'. Prove '..Said' where nothing that the law and all that it calls make is longer than what came in: it says more and counts as full. Else prove '..UptoSaid'. A law counts once. -/
mutual
def uptoBulk {H : Type} : DataW H → Nat
  | .lit (.string bytes) => bytes.length + 1
  | .lit _ => 1
  | .nil => 1
  | .ptr d => uptoBulk d + 1
  | .slice elems spare => uptoBulkAll elems + uptoBulkAll spare + 1
  | .agg parts => uptoBulkAll parts + 1
  | .iface _ d => uptoBulk d + 1
  | .map entries => uptoBulkEntries entries + 1
  | .held _ => 1
def uptoBulkAll {H : Type} : List (DataW H) → Nat
  | [] => 0
  | d :: r => uptoBulk d + uptoBulkAll r
def uptoBulkEntries {H : Type} : List (Lit × DataW H) → Nat
  | [] => 0
  | x :: r => uptoBulkEntry x + uptoBulkEntries r
def uptoBulkEntry {H : Type} : Lit × DataW H → Nat
  | (.string bytes, d) => bytes.length + uptoBulk d + 1
  | (_, d) => uptoBulk d + 1
 end
def uptoSmall : (H : Type) → List (DataW H) → Bool := fun _ ds => decide (uptoBulkAll ds ≤ 1048576)
def OpenSpec.upto (s : _root_.Go.ChangeSpec) : _root_.Go.OpenSpec := { _root_.Go.OpenSpec.ofChange s with cond := some uptoSmall }

/-- 'laws.FnJoinEmpty', WHERE WHAT IT READS IS OF BULK AT MOST 1048576: true; the input reads as it did. -/
def fnJoinEmptyUptoRow : OpenClaim := { program := "ytpgglbnagphgoaa", sum := "459cc42651f04cd4fd090ca50b1c634ce1e30ed75bd7db008599cc1d163cbb44", func := "loop.example/objectlinker/laws.FnJoinEmpty", spec := "fnJoinEmpty", unfollowed := true, recurses := true, apart := false, narrowed := true }
def FnJoinEmptyUptoSaid : Prop := fnJoinEmptyUptoRow.holds Try.pinned (OpenSpec.upto fnJoinEmptySpec)

/-- 'laws.FnKeepLink', WHERE WHAT IT READS IS OF BULK AT MOST 1048576: true; the input reads as it did. -/
def fnKeepLinkUptoRow : OpenClaim := { program := "ytpgglbnagphgoaa", sum := "459cc42651f04cd4fd090ca50b1c634ce1e30ed75bd7db008599cc1d163cbb44", func := "loop.example/objectlinker/laws.FnKeepLink", spec := "fnKeepLink", unfollowed := true, recurses := true, apart := false, narrowed := true }
def FnKeepLinkUptoSaid : Prop := fnKeepLinkUptoRow.holds Try.pinned (OpenSpec.upto fnKeepLinkSpec)

/-- 'laws.FnExactJoinObjects', WHERE WHAT IT READS IS OF BULK AT MOST 1048576: true; the input reads as it did. -/
def fnExactJoinObjectsUptoRow : OpenClaim := { program := "ytpgglbnagphgoaa", sum := "459cc42651f04cd4fd090ca50b1c634ce1e30ed75bd7db008599cc1d163cbb44", func := "loop.example/objectlinker/laws.FnExactJoinObjects", spec := "fnExactJoinObjects", unfollowed := true, recurses := true, apart := false, narrowed := true }
def FnExactJoinObjectsUptoSaid : Prop := fnExactJoinObjectsUptoRow.holds Try.pinned (OpenSpec.upto fnExactJoinObjectsSpec)

end Rows
end Go.Proofs.Ytpgglbnagphgoaa
