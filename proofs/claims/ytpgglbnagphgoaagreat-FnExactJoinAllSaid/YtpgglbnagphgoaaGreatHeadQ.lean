/- Facts on the translation's head. -/
import Derived.Test.YtpgglbnagphgoaaGreatVmP4Q
import Derived.Test.YtpgglbnagphgoaaGreatChecked
import Derived.Test.YtpgglbnagphgoaaGreatRows
set_option linter.unusedVariables false
set_option linter.unusedSimpArgs false
namespace Go.Proofs.YtpgglbnagphgoaaGreat
open Go Go.RowKit Go.ChangeShapes Go.WideShapes Go.Deep

theorem head_own : ownKnob Tryz.prog.godebug = none := by kernel_rfl
theorem head_laid : laidOutB Tryz.prog = true := by kernel_rfl
def hd0 : List Char := [Char.ofNat 104, Char.ofNat 97, Char.ofNat 114, Char.ofNat 110, Char.ofNat 101, Char.ofNat 115, Char.ofNat 115]
def hd1 : List Char := [Char.ofNat 53, Char.ofNat 98, Char.ofNat 99, Char.ofNat 53, Char.ofNat 101, Char.ofNat 99, Char.ofNat 50, Char.ofNat 57, Char.ofNat 50, Char.ofNat 97, Char.ofNat 51, Char.ofNat 57, Char.ofNat 101, Char.ofNat 57, Char.ofNat 101, Char.ofNat 54, Char.ofNat 102, Char.ofNat 53, Char.ofNat 57, Char.ofNat 56, Char.ofNat 97, Char.ofNat 54, Char.ofNat 56, Char.ofNat 55, Char.ofNat 49, Char.ofNat 50, Char.ofNat 100, Char.ofNat 52, Char.ofNat 55, Char.ofNat 57, Char.ofNat 50, Char.ofNat 53, Char.ofNat 101, Char.ofNat 54, Char.ofNat 99, Char.ofNat 101, Char.ofNat 102, Char.ofNat 50, Char.ofNat 51, Char.ofNat 50, Char.ofNat 99, Char.ofNat 54, Char.ofNat 57, Char.ofNat 101, Char.ofNat 55, Char.ofNat 49, Char.ofNat 52, Char.ofNat 51, Char.ofNat 50, Char.ofNat 97, Char.ofNat 102, Char.ofNat 102, Char.ofNat 98, Char.ofNat 50, Char.ofNat 98, Char.ofNat 98, Char.ofNat 48, Char.ofNat 98, Char.ofNat 50, Char.ofNat 51, Char.ofNat 49, Char.ofNat 56, Char.ofNat 53, Char.ofNat 98]
def hd2 : List Char := [Char.ofNat 99, Char.ofNat 117, Char.ofNat 116]
def hd3 : List Char := [Char.ofNat 97, Char.ofNat 116, Char.ofNat 32, Char.ofNat 108, Char.ofNat 111, Char.ofNat 111, Char.ofNat 112, Char.ofNat 46, Char.ofNat 101, Char.ofNat 120, Char.ofNat 97, Char.ofNat 109, Char.ofNat 112, Char.ofNat 108, Char.ofNat 101, Char.ofNat 47, Char.ofNat 111, Char.ofNat 98, Char.ofNat 106, Char.ofNat 101, Char.ofNat 99, Char.ofNat 116, Char.ofNat 108, Char.ofNat 105, Char.ofNat 110, Char.ofNat 107, Char.ofNat 101, Char.ofNat 114, Char.ofNat 47, Char.ofNat 108, Char.ofNat 97, Char.ofNat 119, Char.ofNat 115, Char.ofNat 46, Char.ofNat 70, Char.ofNat 110, Char.ofNat 74, Char.ofNat 111, Char.ofNat 105, Char.ofNat 110, Char.ofNat 79, Char.ofNat 98, Char.ofNat 106, Char.ofNat 101, Char.ofNat 99, Char.ofNat 116, Char.ofNat 115, Char.ofNat 32, Char.ofNat 108, Char.ofNat 111, Char.ofNat 111, Char.ofNat 112, Char.ofNat 46, Char.ofNat 101, Char.ofNat 120, Char.ofNat 97, Char.ofNat 109, Char.ofNat 112, Char.ofNat 108, Char.ofNat 101, Char.ofNat 47, Char.ofNat 111, Char.ofNat 98, Char.ofNat 106, Char.ofNat 101, Char.ofNat 99, Char.ofNat 116, Char.ofNat 108, Char.ofNat 105, Char.ofNat 110, Char.ofNat 107, Char.ofNat 101, Char.ofNat 114, Char.ofNat 47, Char.ofNat 108, Char.ofNat 97, Char.ofNat 119, Char.ofNat 115, Char.ofNat 46, Char.ofNat 70, Char.ofNat 110, Char.ofNat 74, Char.ofNat 111, Char.ofNat 105, Char.ofNat 110, Char.ofNat 65, Char.ofNat 108, Char.ofNat 108, Char.ofNat 32, Char.ofNat 108, Char.ofNat 111, Char.ofNat 111, Char.ofNat 112, Char.ofNat 46, Char.ofNat 101, Char.ofNat 120, Char.ofNat 97, Char.ofNat 109, Char.ofNat 112, Char.ofNat 108, Char.ofNat 101, Char.ofNat 47, Char.ofNat 111, Char.ofNat 98, Char.ofNat 106, Char.ofNat 101, Char.ofNat 99, Char.ofNat 116, Char.ofNat 108, Char.ofNat 105, Char.ofNat 110, Char.ofNat 107, Char.ofNat 101, Char.ofNat 114, Char.ofNat 47, Char.ofNat 108, Char.ofNat 97, Char.ofNat 119, Char.ofNat 115, Char.ofNat 46, Char.ofNat 70, Char.ofNat 110, Char.ofNat 69, Char.ofNat 120, Char.ofNat 97, Char.ofNat 99, Char.ofNat 116, Char.ofNat 74, Char.ofNat 111, Char.ofNat 105, Char.ofNat 110, Char.ofNat 65, Char.ofNat 108, Char.ofNat 108]
set_option maxRecDepth 100000 in
theorem head_ord : Tryz.prog.initOrder = String.ofList (hd0 ++ Char.ofNat 32 :: (hd1 ++ Char.ofNat 32 :: (hd2 ++ Char.ofNat 32 :: hd3))) := by kernel_rfl
theorem words_app : ∀ (w r : List Char), w.all (fun c => c != Char.ofNat 32) = true → wordsSigns (w ++ Char.ofNat 32 :: r) = w :: wordsSigns r := by
 intro w r
 induction w with
 | nil => intro _; rfl
 | cons c w ih =>
  intro h
  simp only [List.all_cons, Bool.and_eq_true, bne_iff_ne, ne_eq] at h
  have h2 := ih (by simpa using h.2)
  have key : ∀ (c : Char) (l : List Char), c ≠ Char.ofNat 32 → wordsSigns (c :: l) = (match wordsSigns l with | w :: ws => (c :: w) :: ws | [] => [[c]]) := fun c l hc => by
   rw [wordsSigns]
   ·rfl
   ·exact hc
  show wordsSigns (c :: (w ++ Char.ofNat 32 :: r)) = _
  rw [key _ _ h.1, h2]
theorem head_words : behindMainWord (wordsSigns Tryz.prog.initOrder.toList) = hd2 :: wordsSigns hd3 := by
 rw [head_ord, String.toList_ofList, words_app _ _ (by decide +kernel), words_app _ _ (by decide +kernel), words_app _ _ (by decide +kernel)]
 have h0 : (hd0 == "harness".toList || hd0 == "ownmain".toList) = true := by decide +kernel
 have h1 : isSumSigns hd1 = true := by decide +kernel
 simp only [behindMainWord, h0, h1, Bool.and_self, if_true]
theorem strip_cut (W : List (List Char)) : stripLifts liftWords (hd2 :: W) = ([], hd2 :: W) := by
 have h : ∀ (l : List String), (l.all fun o => !(hd2 == o.toList)) = true → stripLifts l (hd2 :: W) = ([], hd2 :: W) := by
  intro l
  induction l with
  | nil => intro _; rfl
  | cons o l ih =>
   intro h
   simp only [List.all_cons, Bool.and_eq_true, Bool.not_eq_true'] at h
   unfold stripLifts
   rw [h.1]
   exact ih h.2
 exact h _ (by decide +kernel)
theorem lifts_of {P : Program} {W : List (List Char)} (h : behindMainWord (wordsSigns P.initOrder.toList) = hd2 :: W) : P.headLifts = [] := by
 unfold Program.headLifts
 rw [h, strip_cut]
 simp
theorem make_of {P : Program} {W : List (List Char)} (h : behindMainWord (wordsSigns P.initOrder.toList) = hd2 :: W) : P.make = some .cut := by
 unfold Program.make
 rw [h]
 have h1 : (hd2 == "gc".toList || hd2 == "spec".toList) = false := by decide +kernel
 have h2 : (hd2 == "cut".toList) = true := by decide +kernel
 simp only [h1, h2, Bool.true_or, if_true, Bool.false_eq_true, if_false]
theorem final_of {P : Program} {W : List (List Char)} (h : behindMainWord (wordsSigns P.initOrder.toList) = hd2 :: W) : P.liftsFinal = false := by
 unfold Program.liftsFinal
 rw [lifts_of h, h]
 have h1 : (some hd2 == some "carried".toList) = false := by decide +kernel
 simp only [List.head?_cons, h1, Bool.false_and, Bool.false_or, List.contains_nil]
theorem enter_of {P : Program} {W : List (List Char)} (h : behindMainWord (wordsSigns P.initOrder.toList) = hd2 :: W) (h1 : P.laysLater = false) (h2 : P.bearsReflect = false) (h3 : P.doorFits [] = true) : P.mayEnter = true := by
 unfold Program.mayEnter
 rw [h]
 simp only [strip_cut, h1, h2, h3, List.head?_cons]
 have h2 : (some hd2 == some "cut".toList) = true := by decide +kernel
 rw [h2]
 simp
theorem head_make : Tryz.prog.make = some .cut := make_of head_words
theorem head_final : Tryz.prog.liftsFinal = false := final_of head_words
theorem head_later : Tryz.prog.laysLater = false := by kernel_rfl
theorem head_refl : Tryz.prog.bearsReflect = false := by kernel_rfl
theorem head_doors : Tryz.prog.doorFits [] = true := by kernel_rfl
theorem head_enter : Tryz.prog.mayEnter = true := enter_of head_words head_later head_refl head_doors
theorem head_rowed : mapsRowed Tryz.prog = true := by kernel_rfl
theorem head_stops : (Tryz.prog.stops == []) = true := by kernel_rfl
theorem head_stopk : (Tryz.prog.stopKnobs == []) = true := by kernel_rfl
theorem head_heard : Tryz.prog.stopsHeard = true := by kernel_rfl
theorem joined_of {P : Program} {f : FuncId} {fn : Func} {s : ChangeSpec} {c : OpenClaim} (k2 : laidOutB P = true) (k3 : mapsRowed P = true) (k7 : (P.stops == []) = true) (k9 : (P.stopKnobs == []) = true) (k23b : P.stopsHeard = true) (k24 : P.mayEnter = true) (k24b : (c.lifted == P.liftsFinal) = true) (k24c : (P.make == some c.make) = true)
  (h : (c.wf (OpenSpec.ofChange s) && fn.params.all (P.readableRec ·) && namedTie P c.named s.vars && (c.stops == []) && (c.knobs == []) && (c.inPlace == P.inPlace f) && (c.unfollowed == P.unfollowed f) && (c.recurses == P.recurses f) && (c.named == P.varsNamed f) &&
   (c.maps == (fn.params.toList ++ s.plain.varTypes P).any (P.mapsRec ·)) && (c.ifaces == (fn.params.toList ++ s.plain.varTypes P).any (P.ifacesRec ·)) && (c.mapsOut == P.mapsAmong fn.resultTypes.toList) && (c.loops == (fn.params.toList ++ s.plain.varTypes P).any (P.loopsFrom ·)) && (c.wideKeys == (fn.params.toList ++ s.plain.varTypes P ++ fn.resultTypes.toList).any (P.wideKeysFrom ·)) &&
   s.vars.all (P.varReadable ·) && fn.resultTypes.all (fun t => P.readableRec t && decide (t < P.types.size)) && (c.ifacesOut == fn.resultTypes.toList.any (P.ifacesRec ·)) && (c.loopsOut == fn.resultTypes.toList.any (P.loopsFrom ·)) && (c.plainKeys == P.plainKeys) && c.shortTexts.isNone &&
   (c.kinds == (if c.domain.isEmpty then [] else fn.params.toList.map fun t => match P.underlying t with | some (.int k) => some k | _ => none)) && (c.pinned == c.pinnedBy) && (c.veiled == (fn.params.toList ++ s.plain.varTypes P ++ fn.resultTypes.toList).any (P.veiledRec ·)) && c.veiledFits P fn.params.toList (fn.params.toList ++ s.plain.varTypes P ++ fn.resultTypes.toList)) = true) : joinedFacts P f fn s c = true := by
 simp only [joinedFacts, k2, k3, k7, k9, k23b, k24, k24b, k24c, Bool.and_true]
 exact h
end Go.Proofs.YtpgglbnagphgoaaGreat
