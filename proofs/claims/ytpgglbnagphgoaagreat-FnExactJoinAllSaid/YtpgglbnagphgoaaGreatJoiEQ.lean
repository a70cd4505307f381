/- Joined objects are linked as both are: plain Lean. -/
import Derived.Test.YtpgglbnagphgoaaGreatJoiDQ
set_option linter.unusedVariables false
set_option linter.unusedSimpArgs false
namespace Go.Proofs.YtpgglbnagphgoaaGreat
open Go Go.RowKit

structure Jok (a b : Objt) : Prop where
 va : objB a = true
 vb : objB b = true
 tw : nTw [a, b] = []
 x : objB (jnO a b) = true
theorem joinOk_iff {a b : Objt} : joinOk a b = true ↔ Jok a b := by
 unfold joinOk
 simp only [Bool.and_eq_true, decide_eq_true_eq]
 exact ⟨fun h => ⟨h.1.1.1, h.1.1.2, h.1.2, h.2⟩, fun h => ⟨⟨⟨h.va, h.vb⟩, h.tw⟩, h.x⟩⟩
theorem Jok.u {a b : Objt} (h : Jok a b) : Uniq (jnO a b).syms := objB_uniq h.x
theorem Jok.ok {a b : Objt} (h : Jok a b) : JnOk a b.syms (jnF a b.syms) := jn_ok h.va h.vb
/-! The layout. -/
/-! What symbols mean. -/
/-! All are joined. -/
def joinR : List Objt → Objt → Option Objt
 | [], x => some x
 | o :: l, x => if joinOk x o = true then joinR l (jnO x o) else none
def joinA (l : List Objt) : Option Objt := if objsB l = true then (match l with | [] => none | o :: l => joinR l o) else none
/-! With an object without anything. -/
end Go.Proofs.YtpgglbnagphgoaaGreat
