/- HashOf of both packages: the number that is made of a text. -/
import Derived.Test.YthdekdghhppkgaaNum
namespace Go.Proofs.Ythdekdghhppkgaa
open Go.RowKit
open Mem (rep own)

def hashStep (h : Int) (c : UInt8) : Int := (33 * h + (c.toNat : Int)) % 1000003
def hashL (l : List UInt8) : Int := l.foldl hashStep 5381
theorem hashL_bd (l : List UInt8) : 0 ≤ hashL l ∧ hashL l < 1000003 := by
  have : ∀ (l : List UInt8) (h : Int), 0 ≤ h ∧ h < 1000003 → 0 ≤ l.foldl hashStep h ∧ l.foldl hashStep h < 1000003 := by
    intro l
    induction l with
    | nil => intro h hh; exact hh
    | cons c l ih => intro h hh; exact ih _ ⟨by unfold hashStep; omega, by unfold hashStep; omega⟩
  exact this l _ (by omega)
theorem hashL_snoc (l : List UInt8) (c : UInt8) : hashL (l ++ [c]) = (33 * hashL l + (c.toNat : Int)) % 1000003 := by
  simp [hashL, hashStep]
theorem take_snoc (s : ByteArray) (k : Nat) (h : k < s.size) : s.data.toList.take (k + 1) = s.data.toList.take k ++ [s[k]] := by
  rw [List.take_succ_eq_append_getElem (by simpa using h)]; rfl

set_option maxHeartbeats 400000 in
theorem c_impl_HashOf (s : ByteArray) (w : World) (hs : s.size ≤ 9223372036854775807) :
    Calls Try.prog 16 #[.string s] w fun e w' => e = .returned (.int .i64 (hashL s.data.toList)) ∧ w = w' := by
  go_enter Try.func16, Try.ntmps16
  go_wp2
  go_loop [3, 7] (fun h i => ∃ k : Nat, k ≤ s.size ∧ i = .int .i64 k ∧ h = .int .i64 (hashL (s.data.toList.take k))) (fun _ i => s.size - (intOf i).toNat)
  case atStart => exact ⟨0, Nat.zero_le _, rfl, rfl⟩
  case round =>
    obtain ⟨k, hk, rfl, rfl⟩ := hrel
    have hd := hashL_bd (s.data.toList.take k)
    by_cases hlt : k < s.size
    · have HS : Hid (hashL (s.data.toList.take (k + 1)) = _) := (by rw [take_snoc s k hlt, hashL_snoc] : hashL (s.data.toList.take (k + 1)) = _)
      have hb : s[k].toNat < 256 := s[k].toNat_lt
      go_wp2
      go_round
      case rel => exact ⟨k + 1, by omega, by go_num, by rw [HS.out]⟩
      case measure => simp [intOf]; omega
    · go_wp2
      go_ret
      exact ⟨ret_int (by rw [List.take_of_length_le (by simp; omega)]), rfl⟩
set_option maxHeartbeats 400000 in
theorem c_spec_HashOf (s : ByteArray) (w : World) (hs : s.size ≤ 9223372036854775807) :
    Calls Try.prog 15 #[.string s] w fun e w' => e = .returned (.int .i64 (hashL s.data.toList)) ∧ w = w' := by
  go_enter Try.func15, Try.ntmps15
  go_wp2
  go_loop [3, 4] (fun h i => ∃ k : Nat, k ≤ s.size ∧ i = .int .i64 k ∧ h = .int .i64 (hashL (s.data.toList.take k))) (fun _ i => s.size - (intOf i).toNat)
  case atStart => exact ⟨0, Nat.zero_le _, rfl, rfl⟩
  case round =>
    obtain ⟨k, hk, rfl, rfl⟩ := hrel
    have hd := hashL_bd (s.data.toList.take k)
    by_cases hlt : k < s.size
    · have HS : Hid (hashL (s.data.toList.take (k + 1)) = _) := (by rw [take_snoc s k hlt, hashL_snoc] : hashL (s.data.toList.take (k + 1)) = _)
      have hb : s[k].toNat < 256 := s[k].toNat_lt
      go_wp2
      go_round
      case rel => exact ⟨k + 1, by omega, by go_num, by rw [HS.out]⟩
      case measure => simp [intOf]; omega
    · go_wp2
      go_ret
      exact ⟨ret_int (by rw [List.take_of_length_le (by simp; omega)]), rfl⟩
end Go.Proofs.Ythdekdghhppkgaa
