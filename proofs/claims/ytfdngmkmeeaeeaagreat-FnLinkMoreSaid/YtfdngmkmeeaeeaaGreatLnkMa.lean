/- An object without anything changes no image; memories of objects are valid: plain Lean. -/
import Derived.Test.YtfdngmkmeeaeeaaGreatLnkLa
import Derived.Test.YtfdngmkmeeaeeaaGreatJoiDa
set_option linter.unusedVariables false
set_option linter.unusedSimpArgs false
namespace Go.Proofs.YtfdngmkmeeaeeaaGreat
open Go Go.RowKit

abbrev eO : Objt := ⟨[], []⟩
theorem plO_e {c a : Int} {l : List Objt} : plO c (l ++ [eO]) a = plO c l a := by rw [plO_app]; rfl
theorem atK_e {l : List Objt} {b : Int} : ∀ n, atK (l ++ [eO]) b n = atK l b n := by
 intro n
 induction n with
 | zero => rfl
 | succ n ih => rw [atK, atK, plO_e, ih]
theorem begK_e {l : List Objt} {b c : Int} : begK (l ++ [eO]) b c = begK l b c := by unfold begK; rw [atK_e]
theorem getE {l : List Objt} {k : Nat} : (l ++ [eO])[k]? = l[k]? ∨ ((l ++ [eO])[k]? = some eO ∧ l[k]? = none) := by
 rcases Nat.lt_trichotomy k l.length with h | h | h
 ·exact .inl (List.getElem?_append_left h)
 ·subst h; right
  rw [List.getElem?_append_right (Nat.le_refl _), Nat.sub_self]
  exact ⟨rfl, List.getElem?_eq_none (Nat.le_refl _)⟩
 ·left
  rw [List.getElem?_eq_none (by simp; omega), List.getElem?_eq_none (by omega)]
theorem plc_e {l : List Objt} {b : Int} {k i : Nat} : plc (l ++ [eO]) b k i = plc l b k i := by
 unfold plc
 rcases getE (l := l) (k := k) with h | ⟨h, h'⟩
 ·rw [h]
  cases ho : l[k]? with
  | none => rfl
  | some o =>
   simp only
   cases o.sects[i]? with
   | none => rfl
   | some s =>
    have := lt_of_some ho
    simp only [begK_e]
    rw [List.take_append_of_le_length (by omega)]
 ·rw [h, h']; simp
theorem places_e {l : List Objt} {b : Int} : places (l ++ [eO]) b = places l b ++ [[]] := by
 unfold places
 rw [List.mapIdx_append]
 congr 1
 exact mapIdx_congr fun i o _ => mapIdx_congr fun j s _ => plc_e
theorem getD_e {pl : List (List Int)} {k : Nat} : (pl ++ [[]]).getD k [] = pl.getD k [] := by
 rcases Nat.lt_trichotomy k pl.length with h | h | h
 ·simp [List.getD, List.getElem?_append_left h]
 ·subst h; simp [List.getD]
 ·simp [List.getD, List.getElem?_eq_none (show (pl ++ [[]]).length ≤ k by simp; omega), List.getElem?_eq_none (show pl.length ≤ k by omega)]
theorem placeOf_e {pl : List (List Int)} {k i : Int} : placeOf (pl ++ [[]]) k i = placeOf pl k i := by unfold placeOf; rw [getD_e]
theorem fbO_e {n : ByteArray} {b : Int} : ∀ {l : List Objt} {k : Int}, fbO n b (l ++ [eO]) k = fbO n b l k := by
 intro l
 induction l with
 | nil => intro k; simp [fbO, ixF]
 | cons o l ih => intro k; simp only [List.cons_append, fbO, ih]
theorem fnd_e {l : List Objt} {n : ByteArray} : fnd (l ++ [eO]) n = fnd l n := by unfold fnd; rw [fbO_e, fbO_e]
theorem plV_e {pl : List (List Int)} {l : List Objt} {g : Given} : plV (pl ++ [[]]) (l ++ [eO]) g = plV pl l g := by
 unfold plV
 rcases getE (l := l) (k := g.in_.toNat) with h | ⟨h, h'⟩
 ·rw [h, getD_e]
 ·rw [h, h']; simp
theorem syV_e {pl : List (List Int)} {l : List Objt} {k j : Int} : syV (pl ++ [[]]) (l ++ [eO]) k j = syV pl l k j := by
 unfold syV
 rcases getE (l := l) (k := k.toNat) with h | ⟨h, h'⟩
 ·rw [h]; simp only [plV_e, fnd_e]
 ·rw [h, h']; simp
theorem flt_e {p : Sym → Bool} {l : List Objt} : flt p (l ++ [eO]) = flt p l := by simp [flt, symP]
theorem missS_e {l : List Objt} : missS (l ++ [eO]) = missS l := funext fun s => by unfold missS; rw [fnd_e]
theorem nTw_e {l : List Objt} : nTw (l ++ [eO]) = nTw l := by unfold nTw; rw [flt_e]
theorem nMs_e {l : List Objt} : nMs (l ++ [eO]) = nMs l := by unfold nMs; rw [missS_e, flt_e]
theorem lnkB_e {l : List Objt} {b : Int} : lnkB (l ++ [eO]) b = lnkB l b := by
 unfold lnkB
 rw [atK_e, lnkO_app, places_e]
 have : ∀ out, lnkO (places l b ++ [[]]) (l ++ [eO]) b l 0 out = lnkO (places l b) l b l 0 out := fun out => by
  refine lnkO_same (by omega) (by omega) fun j o ho => ⟨forall2_refl fun s hs => ⟨rfl, forall2_refl fun f hf => ⟨rfl, rfl, rfl, ?_⟩⟩, fun i => placeOf_e⟩
  rw [syV_e]
 rw [this]
 cases lnkO (places l b) l b l 0 (List.replicate (atK l b 3 - b).toNat 0) with
 | none => rfl
 | some out => simp [lnkO, lnkS]
theorem objsB_e {l : List Objt} (h : objsB l = true) (h4 : (l.length : Int) ≠ 4) : objsB (l ++ [eO]) = true := by
 have h' := objsB_all h
 simp only [objsB, Bool.and_eq_true, decide_eq_true_eq, List.all_append]
 refine ⟨by simp; omega, h'.1, ?_⟩
 decide
theorem layOk_e {l : List Objt} {b : Int} (h : objsB l = true) (h4 : (l.length : Int) ≠ 4) : layOk (l ++ [eO]) b = layOk l b := by
 unfold layOk; rw [h, objsB_e h h4]
theorem link_more {l : List Objt} {b : Int} (h : objsB l = true) (h4 : ¬ (l.length : Int) = 4) : link (l ++ [eO]) b = link l b := by
 unfold link
 rw [layOk_e h h4, nTw_e, nMs_e, lnkB_e]
end Go.Proofs.YtfdngmkmeeaeeaaGreat
