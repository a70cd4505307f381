/- How long images of objects are: plain Lean. -/
import Derived.Test.YtpgglbnagphgoaaLinkDK
set_option linter.unusedVariables false
set_option linter.unusedSimpArgs false
namespace Go.Proofs.Ytpgglbnagphgoaa
open Go Go.RowKit

theorem lnkO_len {pl : List (List Int)} {l : List Objt} {base : Int} : ∀ {r : List Objt} {k : Int} {out c : List Int}, (∀ (j : Nat) o, r[j]? = some o → ∀ (i : Nat) s, o.sects[i]? = some s → base ≤ placeOf pl (k + j) i ∧ placeOf pl (k + j) i - base + s.bytes.length ≤ out.length) → lnkO pl l base r k out = some c → c.length = out.length := by
 intro r
 induction r with
 | nil => intro k out c _ h; simp only [lnkO, Option.some.injEq] at h; rw [h]
 | cons o r ih =>
  intro k out c hb h
  rw [lnkO_cons] at h
  cases hs : lnkS pl l base k o.sects 0 out with
  | none => rw [hs] at h; cases h
  | some y =>
   rw [hs] at h
   have e : y.length = out.length := lnkS_len (fun j s hj => by have := hb 0 o rfl j s hj; simpa using this) hs
   rw [ih (fun j q hq i s hi => by
    have := hb (j + 1) q (by simpa using hq) i s hi
    rw [e]
    rw [show k + 1 + (j : Int) = k + ((j + 1 : Nat) : Int) by omega]
    exact this) h, e]
theorem lnkB_len {l : List Objt} {b : Int} {x : List Int} (h : layOk l b = true) (hx : lnkB l b = some x) : (x.length : Int) = atK l b 3 - b := by
 have he := lay_end h
 have := lnkO_len (fun j o ho i s hs => by
  have hp := plc_range h ho hs
  have e2 : placeOf (places l b) (0 + (j : Int)) i = plc l b j i := by
   have := places_getD (b := b) ho hs
   unfold placeOf
   rw [show (0 + (j : Int)).toNat = j by omega, show ((i : Nat) : Int).toNat = i by omega]
   exact this
  have hso := secsOk_get (objB_secs (all_get (lay_all h).1 ho)) hs
  have := hso.2.2.2.2.2
  rw [List.length_replicate, e2]
  omega) hx
 rw [List.length_replicate] at this
 omega
theorem link_good {l : List Objt} {b : Int} (h : (link l b).2 = 0) : ∃ x, layOk l b = true ∧ nTw l = [] ∧ nMs l = [] ∧ lnkB l b = some x ∧ link l b = (⟨b, x⟩, 0) ∧ (x.length : Int) = atK l b 3 - b := by
 unfold link at h ⊢
 cases hl : layOk l b with
 | false => rw [hl] at h; simp at h
 | true =>
  rw [hl] at h
  by_cases h1 : nTw l = []
  ·by_cases h2 : nMs l = []
   ·cases hx : lnkB l b with
    | none => rw [hx] at h; simp [h1, h2] at h
    | some x => exact ⟨x, rfl, h1, h2, rfl, by simp [h1, h2], lnkB_len hl hx⟩
   ·simp [h1, h2] at h
  ·simp [h1] at h
end Go.Proofs.Ytpgglbnagphgoaa
