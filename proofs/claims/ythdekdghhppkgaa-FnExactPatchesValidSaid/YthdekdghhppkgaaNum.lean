/- Numbers: the contracts of the small functions that only compute. -/
import Derived.Test.YthdekdghhppkgaaProg
import Derived.Test.YthdekdghhppkgaaData
namespace Go.Proofs.Ythdekdghhppkgaa
open Go.RowKit
open Mem (rep own)

/-- lo ≤ n ≤ hi, behind a name -/
def inB (n lo hi : Int) : Bool := decide (lo ≤ n ∧ n ≤ hi)
theorem inB_iff {n lo hi : Int} : inB n lo hi = true ↔ lo ≤ n ∧ n ≤ hi := by simp [inB]
theorem inB_not {n lo hi : Int} : inB n lo hi = false ↔ ¬ (lo ≤ n ∧ n ≤ hi) := by rw [← Bool.not_eq_true, inB_iff]

theorem c_impl_within (n lo hi : Int) (w : World) :
    Calls Try.prog 49 #[.int .i64 n, .int .i64 lo, .int .i64 hi] w fun e w' => e = .returned (.bool (inB n lo hi)) ∧ w = w' := by
  by_cases h : lo ≤ n
  all_goals
    go_enter Try.func49, Try.ntmps49
    go_wp2
    go_ret
  · exact ⟨ret_bool (by simp [inB, h]), rfl⟩
  · exact ⟨ret_bool (by simp [inB]; omega), rfl⟩
theorem c_spec_l1In (n lo hi : Int) (w : World) :
    Calls Try.prog 48 #[.int .i64 n, .int .i64 lo, .int .i64 hi] w fun e w' => e = .returned (.bool (inB n lo hi)) ∧ w = w' := by
  by_cases h : lo ≤ n
  all_goals
    go_enter Try.func48, Try.ntmps48
    go_wp2
    go_ret
  · exact ⟨ret_bool (by simp [inB, h]), rfl⟩
  · exact ⟨ret_bool (by simp [inB]; omega), rfl⟩

def addB (n : Int) : Bool := inB n (-1000) 1000
theorem c_impl_isAdd (n : Int) (w : World) :
    Calls Try.prog 50 #[.int .i64 n] w fun e w' => e = .returned (.bool (addB n)) ∧ w = w' := by
  go_enter Try.func50, Try.ntmps50
  go_wp2_with (first | (go_at_call 49; refine (c_impl_within _ _ _ _).mono ?_; rintro e w' ⟨rfl, rfl⟩))
  go_ret
  exact ⟨rfl, rfl⟩

def baseB (n : Int) : Bool := inB n 0 4096 && n % 8 == 0
theorem baseB_iff {n : Int} : baseB n = true ↔ 0 ≤ n ∧ n ≤ 4096 ∧ n % 8 = 0 := by simp [baseB, inB, and_assoc]
theorem c_impl_isBase (n : Int) (w : World) :
    Calls Try.prog 53 #[.int .i64 n] w fun e w' => e = .returned (.bool (baseB n)) ∧ w = w' := by
  by_cases h : inB n 0 4096 = true
  · have hh := inB_iff.1 h
    have h0 := hh.1
    clear hh
    go_enter Try.func53, Try.ntmps53
    go_wp2_with (first | (go_at_call 49; refine (c_impl_within _ _ _ _).mono ?_; rintro e w' ⟨rfl, rfl⟩))
    go_ret
    exact ⟨ret_bool (by simp [baseB, h]), rfl⟩
  · go_enter Try.func53, Try.ntmps53
    go_wp2_with (first | (go_at_call 49; refine (c_impl_within _ _ _ _).mono ?_; rintro e w' ⟨rfl, rfl⟩))
    go_ret
    exact ⟨ret_bool (by simp [baseB, h]), rfl⟩

def alignB (n : Int) : Bool := n == 1 || n == 2 || n == 4 || n == 8
theorem alignB_iff {n : Int} : alignB n = true ↔ n = 1 ∨ n = 2 ∨ n = 4 ∨ n = 8 := by simp [alignB, or_assoc]
theorem c_impl_isAlign (n : Int) (w : World) :
    Calls Try.prog 69 #[.int .i64 n] w fun e w' => e = .returned (.bool (alignB n)) ∧ w = w' := by
  go_enter Try.func69, Try.ntmps69
  go_wp2
  all_goals (go_ret; exact ⟨ret_bool (by simp [alignB, *]), rfl⟩)

def wideN (kind : Int) : Int := if kind = 1 then 1 else if kind = 2 then 2 else if kind = 3 then 4 else 0
theorem wideN_cases (kind : Int) : wideN kind = 0 ∨ wideN kind = 1 ∨ wideN kind = 2 ∨ wideN kind = 4 := by unfold wideN; by_cases h1 : kind = 1 <;> by_cases h2 : kind = 2 <;> by_cases h3 : kind = 3 <;> simp [h1, h2, h3]
theorem wideN_bd (kind : Int) : 0 ≤ wideN kind ∧ wideN kind ≤ 4 := by have := wideN_cases kind; omega
theorem wideN_zero {kind : Int} : wideN kind = 0 ↔ ¬ (1 ≤ kind ∧ kind ≤ 3) := by unfold wideN; by_cases h1 : kind = 1 <;> by_cases h2 : kind = 2 <;> by_cases h3 : kind = 3 <;> simp [h1, h2, h3] <;> omega
theorem c_impl_FixupWide (kind : Int) (w : World) :
    Calls Try.prog 39 #[.int .i64 kind] w fun e w' => e = .returned (.int .i64 (wideN kind)) ∧ w = w' := by
  go_enter Try.func39, Try.ntmps39
  go_wp2
  all_goals (go_ret; exact ⟨ret_int (by simp_all [wideN]), rfl⟩)
theorem c_spec_FixupWide (kind : Int) (w : World) :
    Calls Try.prog 47 #[.int .i64 kind] w fun e w' => e = .returned (.int .i64 (wideN kind)) ∧ Ext w w' := by
  by_cases h : inB kind 1 3 = true
  · have hh := inB_iff.1 h
    obtain rfl | rfl | rfl : kind = 1 ∨ kind = 2 ∨ kind = 3 := by omega
    all_goals
      go_enter Try.func47, Try.ntmps47
      go_wp2_with (first | (go_at_call 48; refine (c_spec_l1In _ _ _ _).mono ?_; rintro e w' ⟨rfl, rfl⟩))
      go_ret
      exact ⟨rfl, (by repeat (first | exact Below.refl _ _ | assumption | refine Ext.alloc ?_ _ | refine Ext.drew ?_ | refine Ext.drewN ?_ _ | refine Ext.setCell ?_ (by first | omega | (dsimp only; omega) | go_size) _ | refine Ext.trans ?_ (by assumption)))⟩
  · go_enter Try.func47, Try.ntmps47
    go_wp2_with (first | (go_at_call 48; refine (c_spec_l1In _ _ _ _).mono ?_; rintro e w' ⟨rfl, rfl⟩))
    go_ret
    exact ⟨ret_int (wideN_zero.2 (fun hh => h (inB_iff.2 hh))).symm, (by repeat (first | exact Below.refl _ _ | assumption | refine Ext.alloc ?_ _ | refine Ext.drew ?_ | refine Ext.drewN ?_ _ | refine Ext.setCell ?_ (by first | omega | (dsimp only; omega) | go_size) _ | refine Ext.trans ?_ (by assumption)))⟩

/-- the least multiple of 'to' from n on -/
def alN (n to : Int) : Int := (n + to - 1) / to * to
theorem c_impl_aligned (n to : Int) (w : World) (h0 : 0 ≤ n) (h1 : n ≤ 1000000) (h2 : 1 ≤ to) (h3 : to ≤ 8) :
    Calls Try.prog 70 #[.int .i64 n, .int .i64 to] w fun e w' => e = .returned (.int .i64 (alN n to)) ∧ w = w' := by
  have hq : 0 ≤ (n + to - 1) / to := Int.ediv_nonneg (by omega) (by omega)
  have hq2 : (n + to - 1) / to ≤ 1000007 := by
    refine Int.le_trans (Int.ediv_le_self _ (by omega)) (by omega)
  have hm : (n + to - 1) / to * to ≤ 8000056 := by
    have h : (n + to - 1) / to * to ≤ n + to - 1 := Int.ediv_mul_le _ (by omega)
    omega
  have hm0 : 0 ≤ (n + to - 1) / to * to := Int.mul_nonneg hq (by omega)
  go_enter Try.func70, Try.ntmps70
  go_wp2
  go_ret
  exact ⟨rfl, rfl⟩
theorem c_impl_AlignUp_5_4 (w : World) :
    Calls Try.prog 57 #[.int .i64 5, .int .i64 4] w fun e w' => e = .returned (.int .i64 8) ∧ w = w' := by
  have h1 : alignB 4 = true := by decide
  have h2 : inB 5 0 1000000 = true := by decide
  go_enter Try.func57, Try.ntmps57
  go_wp2_with (first | (first | (go_at_call 49; refine (c_impl_within _ _ _ _).mono ?_; rintro e w' ⟨rfl, rfl⟩) | (go_at_call 69; refine (c_impl_isAlign _ _).mono ?_; rintro e w' ⟨rfl, rfl⟩)) | (go_at_call 70; refine (c_impl_aligned _ _ _ (by decide) (by decide) (by decide) (by decide)).mono ?_; rintro e w' ⟨rfl, rfl⟩))
  go_ret
  exact ⟨rfl, rfl⟩
theorem c_laws_alive (w : World) : Calls Try.prog 25 #[] w fun e w' => e = .returned (.bool true) ∧ w = w' := by
  go_enter Try.func25, Try.ntmps25
  go_wp2_with (go_at_call 57; refine (c_impl_AlignUp_5_4 _).mono ?_; rintro e w' ⟨rfl, rfl⟩)
  go_ret
  exact ⟨rfl, rfl⟩
end Go.Proofs.Ythdekdghhppkgaa
