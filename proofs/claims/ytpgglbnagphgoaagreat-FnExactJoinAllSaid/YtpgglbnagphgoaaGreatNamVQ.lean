/- Names that are valid; both packages. -/
import Derived.Test.YtpgglbnagphgoaaGreatObjDQ
set_option linter.unusedVariables false
set_option linter.unusedSimpArgs false
set_option maxRecDepth 200000
set_option maxHeartbeats 4000000
namespace Go.Proofs.YtpgglbnagphgoaaGreat
open Go Go.RowKit


def C_impl_NameValid : Con := { ps := [.ro .str], out := fun x => let s : ByteArray := x.1; vc .bool (nameB s), det := true }
abbrev L_impl_NameValid : List (Nat × Con) := [(78, C_impl_within)]
def G_impl_NameValid : Cfg := GK L_impl_NameValid
def an_impl_NameValid : PTL C_impl_NameValid.ps → Nat → Option Ann := fun x kk_ => let s : ByteArray := x.1; if kk_ = 2 then some (.all (Int) fun i => .giv (0 ≤ i ∧ i ≤ s.size ∧ nameFrom s 0 s.size = nameFrom s i.toNat (s.size - i.toNat)) (.mk [(6, ai i), (0, ax s), (5, ai (ByteArray.size s))] [] ((s.size - i.toNat)))) else none
theorem vc_impl_NameValid (s : ByteArray) : (KP Tryz.f88 G_impl_NameValid C_impl_NameValid an_impl_NameValid (s, ())) = (ByteArray.size s ≤ 9223372036854775807 →
 (∃ (a : Int), 0 = a ∧ s = s ∧ @Nat.cast Int _ (ByteArray.size s) = @Nat.cast Int _ (ByteArray.size s) ∧ (0 ≤ a ∧ a ≤ @Nat.cast Int _ (ByteArray.size s) ∧ nameFrom s 0 (ByteArray.size s) = nameFrom s a.toNat (ByteArray.size s - a.toNat)) ∧ True) ∧ (∀ (b : Int), 0 ≤ b ∧ b ≤ @Nat.cast Int _ (ByteArray.size s) ∧ nameFrom s 0 (ByteArray.size s) = nameFrom s b.toNat (ByteArray.size s - b.toNat) →
 (decide (b < @Nat.cast Int _ (ByteArray.size s)) = true →
 (0 ≤ b ∧ b < @Nat.cast Int _ (ByteArray.size s)) ∧ (0 ≤ strAt s b.toNat ∧ strAt s b.toNat ≤ 255 →
 (decide (97 ≤ strAt s b.toNat) = true →
 (0 ≤ b ∧ b < @Nat.cast Int _ (ByteArray.size s)) ∧ (0 ≤ strAt s b.toNat ∧ strAt s b.toNat ≤ 255 →
 (decide (strAt s b.toNat ≤ 122) = true →
 i64 (b + 1) ∧ (∃ (c : Int), b + 1 = c ∧ s = s ∧ @Nat.cast Int _ (ByteArray.size s) = @Nat.cast Int _ (ByteArray.size s) ∧ (0 ≤ c ∧ c ≤ @Nat.cast Int _ (ByteArray.size s) ∧ nameFrom s 0 (ByteArray.size s) = nameFrom s c.toNat (ByteArray.size s - c.toNat)) ∧ ByteArray.size s - c.toNat < ByteArray.size s - b.toNat)) ∧ (decide (strAt s b.toNat ≤ 122) = false →
 (0 ≤ b ∧ b < @Nat.cast Int _ (ByteArray.size s)) ∧ (0 ≤ strAt s b.toNat ∧ strAt s b.toNat ≤ 255 →
 (decide (strAt s b.toNat = 95) = true →
 i64 (b + 1) ∧ (∃ (d : Int), b + 1 = d ∧ s = s ∧ @Nat.cast Int _ (ByteArray.size s) = @Nat.cast Int _ (ByteArray.size s) ∧ (0 ≤ d ∧ d ≤ @Nat.cast Int _ (ByteArray.size s) ∧ nameFrom s 0 (ByteArray.size s) = nameFrom s d.toNat (ByteArray.size s - d.toNat)) ∧ ByteArray.size s - d.toNat < ByteArray.size s - b.toNat)) ∧ (decide (strAt s b.toNat = 95) = false →
 (0 ≤ b ∧ b < @Nat.cast Int _ (ByteArray.size s)) ∧ (0 ≤ strAt s b.toNat ∧ strAt s b.toNat ≤ 255 →
 (decide (strAt s b.toNat = 46) = true →
 i64 (b + 1) ∧ (∃ (e : Int), b + 1 = e ∧ s = s ∧ @Nat.cast Int _ (ByteArray.size s) = @Nat.cast Int _ (ByteArray.size s) ∧ (0 ≤ e ∧ e ≤ @Nat.cast Int _ (ByteArray.size s) ∧ nameFrom s 0 (ByteArray.size s) = nameFrom s e.toNat (ByteArray.size s - e.toNat)) ∧ ByteArray.size s - e.toNat < ByteArray.size s - b.toNat)) ∧ (decide (strAt s b.toNat = 46) = false →
 (decide (0 < b) = true →
 (0 ≤ b ∧ b < @Nat.cast Int _ (ByteArray.size s)) ∧ (0 ≤ strAt s b.toNat ∧ strAt s b.toNat ≤ 255 →
 (decide (48 ≤ strAt s b.toNat) = true →
 (0 ≤ b ∧ b < @Nat.cast Int _ (ByteArray.size s)) ∧ (0 ≤ strAt s b.toNat ∧ strAt s b.toNat ≤ 255 →
 (Bool.not (decide (strAt s b.toNat ≤ 57)) = true →
 false = nameB s ∧ True) ∧ (Bool.not (decide (strAt s b.toNat ≤ 57)) = false →
 i64 (b + 1) ∧ (∃ (f : Int), b + 1 = f ∧ s = s ∧ @Nat.cast Int _ (ByteArray.size s) = @Nat.cast Int _ (ByteArray.size s) ∧ (0 ≤ f ∧ f ≤ @Nat.cast Int _ (ByteArray.size s) ∧ nameFrom s 0 (ByteArray.size s) = nameFrom s f.toNat (ByteArray.size s - f.toNat)) ∧ ByteArray.size s - f.toNat < ByteArray.size s - b.toNat)))) ∧ (decide (48 ≤ strAt s b.toNat) = false →
 false = nameB s ∧ True))) ∧ (decide (0 < b) = false →
 false = nameB s ∧ True)))))))) ∧ (decide (97 ≤ strAt s b.toNat) = false →
 (0 ≤ b ∧ b < @Nat.cast Int _ (ByteArray.size s)) ∧ (0 ≤ strAt s b.toNat ∧ strAt s b.toNat ≤ 255 →
 (decide (strAt s b.toNat = 95) = true →
 i64 (b + 1) ∧ (∃ (g : Int), b + 1 = g ∧ s = s ∧ @Nat.cast Int _ (ByteArray.size s) = @Nat.cast Int _ (ByteArray.size s) ∧ (0 ≤ g ∧ g ≤ @Nat.cast Int _ (ByteArray.size s) ∧ nameFrom s 0 (ByteArray.size s) = nameFrom s g.toNat (ByteArray.size s - g.toNat)) ∧ ByteArray.size s - g.toNat < ByteArray.size s - b.toNat)) ∧ (decide (strAt s b.toNat = 95) = false →
 (0 ≤ b ∧ b < @Nat.cast Int _ (ByteArray.size s)) ∧ (0 ≤ strAt s b.toNat ∧ strAt s b.toNat ≤ 255 →
 (decide (strAt s b.toNat = 46) = true →
 i64 (b + 1) ∧ (∃ (h : Int), b + 1 = h ∧ s = s ∧ @Nat.cast Int _ (ByteArray.size s) = @Nat.cast Int _ (ByteArray.size s) ∧ (0 ≤ h ∧ h ≤ @Nat.cast Int _ (ByteArray.size s) ∧ nameFrom s 0 (ByteArray.size s) = nameFrom s h.toNat (ByteArray.size s - h.toNat)) ∧ ByteArray.size s - h.toNat < ByteArray.size s - b.toNat)) ∧ (decide (strAt s b.toNat = 46) = false →
 (decide (0 < b) = true →
 (0 ≤ b ∧ b < @Nat.cast Int _ (ByteArray.size s)) ∧ (0 ≤ strAt s b.toNat ∧ strAt s b.toNat ≤ 255 →
 (decide (48 ≤ strAt s b.toNat) = true →
 (0 ≤ b ∧ b < @Nat.cast Int _ (ByteArray.size s)) ∧ (0 ≤ strAt s b.toNat ∧ strAt s b.toNat ≤ 255 →
 (Bool.not (decide (strAt s b.toNat ≤ 57)) = true →
 false = nameB s ∧ True) ∧ (Bool.not (decide (strAt s b.toNat ≤ 57)) = false →
 i64 (b + 1) ∧ (∃ (i : Int), b + 1 = i ∧ s = s ∧ @Nat.cast Int _ (ByteArray.size s) = @Nat.cast Int _ (ByteArray.size s) ∧ (0 ≤ i ∧ i ≤ @Nat.cast Int _ (ByteArray.size s) ∧ nameFrom s 0 (ByteArray.size s) = nameFrom s i.toNat (ByteArray.size s - i.toNat)) ∧ ByteArray.size s - i.toNat < ByteArray.size s - b.toNat)))) ∧ (decide (48 ≤ strAt s b.toNat) = false →
 false = nameB s ∧ True))) ∧ (decide (0 < b) = false →
 false = nameB s ∧ True)))))))) ∧ (decide (b < @Nat.cast Int _ (ByteArray.size s)) = false →
 ByteArray.size s ≤ 9223372036854775807 →
 decide (1 ≤ @Nat.cast Int _ (ByteArray.size s) ∧ @Nat.cast Int _ (ByteArray.size s) ≤ 8) = nameB s ∧ True))) := by kernel_rfl
theorem det_impl_NameValid : C_impl_NameValid.det = true → ∀ x, (C_impl_NameValid.out x).Det := fun _ _ => Det.vc'
theorem ok_impl_NameValid : ConOK Tryz.prog 88 C_impl_NameValid := by
 refine con_q (l := L_impl_NameValid) ⟨⟨ok_impl_within, det_impl_within⟩, trivial⟩ Tryz.func88 rfl (by decide) (by kernel_rfl) rfl an_impl_NameValid fun x ho hx => ?_
 obtain ⟨s, ⟨⟩⟩ := x
 refine Keeps.of (vc_impl_NameValid s) ?_
 revert s ho hx
 show ∀ (s : ByteArray), _
 intro s ho hx
 dsimp only [C_impl_NameValid, okPTL, okPT, Ok, Ty.cells, SN.cells, OkL, OkC, okI, ci, cb, cs, cl] at ho
 dsimp only [C_impl_NameValid, vc, v1, decB, SR.pre] at hx
 have hst : ∀ i : Int, 0 ≤ i → i < s.size → nameFrom s i.toNat (s.size - i.toNat) = (nameCh i.toNat (strAt s i.toNat) && nameFrom s (i + 1).toNat (s.size - (i + 1).toNat)) := fun i h0 h => by
  rw [nameFrom_step (by omega), show (i + 1).toNat = i.toNat + 1 by omega]
 have hen : ∀ i : Int, (s.size : Int) ≤ i → nameFrom s i.toNat (s.size - i.toNat) = true := fun i h => nameFrom_end (by omega)
 (try delta i64 LN); simp only [VBt]; (repeat' first | intro _ | apply And.intro); all_goals (try omega); all_goals grind [nameB, nameCh]
def C_spec_NameValid : Con := { ps := [.ro .str], out := fun x => let s : ByteArray := x.1; vc .bool (nameB s), det := true }
abbrev L_spec_NameValid : List (Nat × Con) := [(110, C_spec_l1In)]
def G_spec_NameValid : Cfg := GK L_spec_NameValid
def an_spec_NameValid : PTL C_spec_NameValid.ps → Nat → Option Ann := fun x kk_ => let s : ByteArray := x.1; if kk_ = 2 then some (.all (Int) fun i => .giv (0 ≤ i ∧ i ≤ s.size ∧ nameFrom s 0 s.size = nameFrom s i.toNat (s.size - i.toNat)) (.mk [(3, ai i), (0, ax s)] [] ((s.size - i.toNat)))) else none
theorem vc_spec_NameValid (s : ByteArray) : (KP Tryz.f109 G_spec_NameValid C_spec_NameValid an_spec_NameValid (s, ())) = ((∃ (a : Int), 0 = a ∧ s = s ∧ (0 ≤ a ∧ a ≤ @Nat.cast Int _ (ByteArray.size s) ∧ nameFrom s 0 (ByteArray.size s) = nameFrom s a.toNat (ByteArray.size s - a.toNat)) ∧ True) ∧ (∀ (b : Int), 0 ≤ b ∧ b ≤ @Nat.cast Int _ (ByteArray.size s) ∧ nameFrom s 0 (ByteArray.size s) = nameFrom s b.toNat (ByteArray.size s - b.toNat) →
 ByteArray.size s ≤ 9223372036854775807 →
 (decide (b < @Nat.cast Int _ (ByteArray.size s)) = true →
 (0 ≤ b ∧ b < @Nat.cast Int _ (ByteArray.size s)) ∧ (0 ≤ strAt s b.toNat ∧ strAt s b.toNat ≤ 255 →
 (decide (97 ≤ strAt s b.toNat) = true →
 (0 ≤ b ∧ b < @Nat.cast Int _ (ByteArray.size s)) ∧ (0 ≤ strAt s b.toNat ∧ strAt s b.toNat ≤ 255 →
 (decide (strAt s b.toNat ≤ 122) = true →
 i64 (b + 1) ∧ (∃ (c : Int), b + 1 = c ∧ s = s ∧ (0 ≤ c ∧ c ≤ @Nat.cast Int _ (ByteArray.size s) ∧ nameFrom s 0 (ByteArray.size s) = nameFrom s c.toNat (ByteArray.size s - c.toNat)) ∧ ByteArray.size s - c.toNat < ByteArray.size s - b.toNat)) ∧ (decide (strAt s b.toNat ≤ 122) = false →
 (0 ≤ b ∧ b < @Nat.cast Int _ (ByteArray.size s)) ∧ (0 ≤ strAt s b.toNat ∧ strAt s b.toNat ≤ 255 →
 (decide (strAt s b.toNat = 95) = true →
 i64 (b + 1) ∧ (∃ (d : Int), b + 1 = d ∧ s = s ∧ (0 ≤ d ∧ d ≤ @Nat.cast Int _ (ByteArray.size s) ∧ nameFrom s 0 (ByteArray.size s) = nameFrom s d.toNat (ByteArray.size s - d.toNat)) ∧ ByteArray.size s - d.toNat < ByteArray.size s - b.toNat)) ∧ (decide (strAt s b.toNat = 95) = false →
 (0 ≤ b ∧ b < @Nat.cast Int _ (ByteArray.size s)) ∧ (0 ≤ strAt s b.toNat ∧ strAt s b.toNat ≤ 255 →
 (Bool.not (decide (strAt s b.toNat = 46)) = true →
 (0 ≤ b ∧ b < @Nat.cast Int _ (ByteArray.size s)) ∧ (0 ≤ strAt s b.toNat ∧ strAt s b.toNat ≤ 255 →
 (decide (strAt s b.toNat < 48) = true →
 false = nameB s ∧ True) ∧ (decide (strAt s b.toNat < 48) = false →
 (0 ≤ b ∧ b < @Nat.cast Int _ (ByteArray.size s)) ∧ (0 ≤ strAt s b.toNat ∧ strAt s b.toNat ≤ 255 →
 (decide (57 < strAt s b.toNat) = true →
 false = nameB s ∧ True) ∧ (decide (57 < strAt s b.toNat) = false →
 (decide (b = 0) = true →
 false = nameB s ∧ True) ∧ (decide (b = 0) = false →
 i64 (b + 1) ∧ (∃ (e : Int), b + 1 = e ∧ s = s ∧ (0 ≤ e ∧ e ≤ @Nat.cast Int _ (ByteArray.size s) ∧ nameFrom s 0 (ByteArray.size s) = nameFrom s e.toNat (ByteArray.size s - e.toNat)) ∧ ByteArray.size s - e.toNat < ByteArray.size s - b.toNat))))))) ∧ (Bool.not (decide (strAt s b.toNat = 46)) = false →
 i64 (b + 1) ∧ (∃ (f : Int), b + 1 = f ∧ s = s ∧ (0 ≤ f ∧ f ≤ @Nat.cast Int _ (ByteArray.size s) ∧ nameFrom s 0 (ByteArray.size s) = nameFrom s f.toNat (ByteArray.size s - f.toNat)) ∧ ByteArray.size s - f.toNat < ByteArray.size s - b.toNat)))))))) ∧ (decide (97 ≤ strAt s b.toNat) = false →
 (0 ≤ b ∧ b < @Nat.cast Int _ (ByteArray.size s)) ∧ (0 ≤ strAt s b.toNat ∧ strAt s b.toNat ≤ 255 →
 (decide (strAt s b.toNat = 95) = true →
 i64 (b + 1) ∧ (∃ (g : Int), b + 1 = g ∧ s = s ∧ (0 ≤ g ∧ g ≤ @Nat.cast Int _ (ByteArray.size s) ∧ nameFrom s 0 (ByteArray.size s) = nameFrom s g.toNat (ByteArray.size s - g.toNat)) ∧ ByteArray.size s - g.toNat < ByteArray.size s - b.toNat)) ∧ (decide (strAt s b.toNat = 95) = false →
 (0 ≤ b ∧ b < @Nat.cast Int _ (ByteArray.size s)) ∧ (0 ≤ strAt s b.toNat ∧ strAt s b.toNat ≤ 255 →
 (Bool.not (decide (strAt s b.toNat = 46)) = true →
 (0 ≤ b ∧ b < @Nat.cast Int _ (ByteArray.size s)) ∧ (0 ≤ strAt s b.toNat ∧ strAt s b.toNat ≤ 255 →
 (decide (strAt s b.toNat < 48) = true →
 false = nameB s ∧ True) ∧ (decide (strAt s b.toNat < 48) = false →
 (0 ≤ b ∧ b < @Nat.cast Int _ (ByteArray.size s)) ∧ (0 ≤ strAt s b.toNat ∧ strAt s b.toNat ≤ 255 →
 (decide (57 < strAt s b.toNat) = true →
 false = nameB s ∧ True) ∧ (decide (57 < strAt s b.toNat) = false →
 (decide (b = 0) = true →
 false = nameB s ∧ True) ∧ (decide (b = 0) = false →
 i64 (b + 1) ∧ (∃ (h : Int), b + 1 = h ∧ s = s ∧ (0 ≤ h ∧ h ≤ @Nat.cast Int _ (ByteArray.size s) ∧ nameFrom s 0 (ByteArray.size s) = nameFrom s h.toNat (ByteArray.size s - h.toNat)) ∧ ByteArray.size s - h.toNat < ByteArray.size s - b.toNat))))))) ∧ (Bool.not (decide (strAt s b.toNat = 46)) = false →
 i64 (b + 1) ∧ (∃ (i : Int), b + 1 = i ∧ s = s ∧ (0 ≤ i ∧ i ≤ @Nat.cast Int _ (ByteArray.size s) ∧ nameFrom s 0 (ByteArray.size s) = nameFrom s i.toNat (ByteArray.size s - i.toNat)) ∧ ByteArray.size s - i.toNat < ByteArray.size s - b.toNat)))))))) ∧ (decide (b < @Nat.cast Int _ (ByteArray.size s)) = false →
 ByteArray.size s ≤ 9223372036854775807 →
 decide (1 ≤ @Nat.cast Int _ (ByteArray.size s) ∧ @Nat.cast Int _ (ByteArray.size s) ≤ 8) = nameB s ∧ True))) := by kernel_rfl
theorem det_spec_NameValid : C_spec_NameValid.det = true → ∀ x, (C_spec_NameValid.out x).Det := fun _ _ => Det.vc'
theorem ok_spec_NameValid : ConOK Tryz.prog 109 C_spec_NameValid := by
 refine con_q (l := L_spec_NameValid) ⟨⟨ok_spec_l1In, det_spec_l1In⟩, trivial⟩ Tryz.func109 rfl (by decide) (by kernel_rfl) rfl an_spec_NameValid fun x ho hx => ?_
 obtain ⟨s, ⟨⟩⟩ := x
 refine Keeps.of (vc_spec_NameValid s) ?_
 revert s ho hx
 show ∀ (s : ByteArray), _
 intro s ho hx
 dsimp only [C_spec_NameValid, okPTL, okPT, Ok, Ty.cells, SN.cells, OkL, OkC, okI, ci, cb, cs, cl] at ho
 dsimp only [C_spec_NameValid, vc, v1, decB, SR.pre] at hx
 have hst : ∀ i : Int, 0 ≤ i → i < s.size → nameFrom s i.toNat (s.size - i.toNat) = (nameCh i.toNat (strAt s i.toNat) && nameFrom s (i + 1).toNat (s.size - (i + 1).toNat)) := fun i h0 h => by
  rw [nameFrom_step (by omega), show (i + 1).toNat = i.toNat + 1 by omega]
 have hen : ∀ i : Int, (s.size : Int) ≤ i → nameFrom s i.toNat (s.size - i.toNat) = true := fun i h => nameFrom_end (by omega)
 (try delta i64 LN); simp only [VBt]; (repeat' first | intro _ | apply And.intro); all_goals (try omega); all_goals grind [nameB, nameCh]
end Go.Proofs.YtpgglbnagphgoaaGreat
