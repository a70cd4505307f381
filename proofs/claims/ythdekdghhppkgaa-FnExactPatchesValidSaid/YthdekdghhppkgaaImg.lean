/- Images: the contracts of what is valid, of one byte, of the copies and comparisons of the laws. -/
import Derived.Test.YthdekdghhppkgaaToS
namespace Go.Proofs.Ythdekdghhppkgaa
open Go.RowKit
open Mem (rep own)

def imgB (m : Img) : Bool := baseB m.base && decide (m.bytes.length ≤ 2000)
theorem imgB_iff {m : Img} : imgB m = true ↔ baseB m.base = true ∧ m.bytes.length ≤ 2000 := by simp [imgB]
theorem c_impl_ImageValid (m : Img) (F : Nat → Prop) (cs : List Value) (w : World) (hm : rep w F cs m) :
    Calls Try.prog 22 #[.agg cs.toArray] w fun e w' => e = .returned (.bool (imgB m)) ∧ Ext w w' := by
  obtain ⟨A, c, rfl, hm1, hm2, hm3, hm4⟩ := Img.open_ hm
  clear hm
  by_cases h : baseB m.base = true
  all_goals
    go_enter Try.func22, Try.ntmps22
    go_wp2_with (first | (go_at_call 53; refine (c_impl_isBase _ _).mono ?_; rintro e w' ⟨rfl, rfl⟩))
    go_ret
    exact ⟨ret_bool (by simp [imgB, h]; try omega), (by repeat (first | exact Below.refl _ _ | assumption | refine Ext.alloc ?_ _ | refine Ext.drew ?_ | refine Ext.drewN ?_ _ | refine Ext.setCell ?_ (by first | omega | (dsimp only; omega) | go_size) _ | refine Ext.trans ?_ (by assumption)))⟩
theorem c_spec_ImageValid (m : Img) (F : Nat → Prop) (cs : List Value) (w : World) (hm : rep w F cs m) :
    Calls Try.prog 20 #[.agg cs.toArray] w fun e w' => e = .returned (.bool (imgB m)) ∧ Ext w w' := by
  obtain ⟨A, c, rfl, hm1, hm2, hm3, hm4⟩ := Img.open_ hm
  clear hm
  by_cases h : inB m.base 0 4096 = true
  · have h0 := (inB_iff.1 h).1
    by_cases h8 : m.base % 8 = 0
    · have e8 : (m.base % 8 == 0) = true := by simpa using h8
      clear h8
      go_enter Try.func20, Try.ntmps20
      go_wp2_with (first | (go_at_call 48; refine (c_spec_l1In _ _ _ _).mono ?_; rintro e w' ⟨rfl, rfl⟩))
      go_ret
      exact ⟨ret_bool (by simp [imgB, baseB, h, e8]; try omega), (by repeat (first | exact Below.refl _ _ | assumption | refine Ext.alloc ?_ _ | refine Ext.drew ?_ | refine Ext.drewN ?_ _ | refine Ext.setCell ?_ (by first | omega | (dsimp only; omega) | go_size) _ | refine Ext.trans ?_ (by assumption)))⟩
    · have e8 : (m.base % 8 == 0) = false := by simpa using h8
      clear h8
      go_enter Try.func20, Try.ntmps20
      go_wp2_with (first | (go_at_call 48; refine (c_spec_l1In _ _ _ _).mono ?_; rintro e w' ⟨rfl, rfl⟩))
      go_ret
      exact ⟨ret_bool (by simp [imgB, baseB, h, e8]; try omega), (by repeat (first | exact Below.refl _ _ | assumption | refine Ext.alloc ?_ _ | refine Ext.drew ?_ | refine Ext.drewN ?_ _ | refine Ext.setCell ?_ (by first | omega | (dsimp only; omega) | go_size) _ | refine Ext.trans ?_ (by assumption)))⟩
  · go_enter Try.func20, Try.ntmps20
    go_wp2_with (first | (go_at_call 48; refine (c_spec_l1In _ _ _ _).mono ?_; rintro e w' ⟨rfl, rfl⟩))
    go_ret
    exact ⟨ret_bool (by simp [imgB, baseB, h]; try omega), (by repeat (first | exact Below.refl _ _ | assumption | refine Ext.alloc ?_ _ | refine Ext.drew ?_ | refine Ext.drewN ?_ _ | refine Ext.setCell ?_ (by first | omega | (dsimp only; omega) | go_size) _ | refine Ext.trans ?_ (by assumption)))⟩

/-- What is left of a bound behind a size; -1 where it is too great. -/
def szR (n : Nat) (left : Int) : Int := if (n : Int) ≤ left then left - n else -1
theorem szR_neg {n : Nat} {left : Int} (_ : 0 ≤ left) : szR n left < 0 ↔ left < n := by unfold szR; split <;> omega
theorem szR_add {n m : Nat} {left : Int} (h : (n : Int) ≤ left) : szR m (szR n left) = szR (n + m) left := by unfold szR; rw [if_pos h]; split <;> split <;> omega
theorem szR_neg_add {n m : Nat} {left : Int} (h : ¬ (n : Int) ≤ left) : szR (n + m) left = -1 := by unfold szR; rw [if_neg (by omega)]
theorem szR_pos {n : Nat} {left : Int} (h : (n : Int) ≤ left) : szR n left = left - n := by unfold szR; rw [if_pos h]
theorem szR_none {n : Nat} {left : Int} (h : ¬ (n : Int) ≤ left) : szR n left = -1 := by unfold szR; rw [if_neg h]
theorem c_laws_szByteS (A : Option Addr) (n c : Nat) (left : Int) (w : World) (h0 : 0 ≤ left) (h1 : left ≤ 1048576) (h2 : n ≤ 9223372036854775807) :
    Calls Try.prog 51 #[.slice A n c, .int .i64 left] w fun e w' => e = .returned (.int .i64 (szR n left)) ∧ w = w' := by
  by_cases h : (n : Int) ≤ left
  · go_enter Try.func51, Try.ntmps51
    go_wp2
    go_ret
    exact ⟨ret_int (szR_pos h).symm, rfl⟩
  · go_enter Try.func51, Try.ntmps51
    go_wp2
    go_ret
    exact ⟨ret_int (szR_none (by omega)).symm, rfl⟩
theorem c_laws_szImage (m : Img) (F : Nat → Prop) (cs : List Value) (left : Int) (w : World) (hm : rep w F cs m) (h0 : 0 ≤ left) (h1 : left ≤ 1048576) :
    Calls Try.prog 19 #[.agg cs.toArray, .int .i64 left] w fun e w' => e = .returned (.int .i64 (szR m.bytes.length left)) ∧ Ext w w' := by
  obtain ⟨A, c, rfl, hm1, hm2, hm3, hm4⟩ := Img.open_ hm
  clear hm
  by_cases h : (m.bytes.length : Int) ≤ left
  · have e := szR_pos h
    have hp : 0 ≤ szR m.bytes.length left := by omega
    clear e
    go_enter Try.func19, Try.ntmps19
    go_wp2_with (first | (go_at_call 51; refine (c_laws_szByteS _ _ _ _ _ (by omega) (by omega) (by omega)).mono ?_; rintro e w' ⟨rfl, rfl⟩))
    go_ret
    exact ⟨rfl, (by repeat (first | exact Below.refl _ _ | assumption | refine Ext.alloc ?_ _ | refine Ext.drew ?_ | refine Ext.drewN ?_ _ | refine Ext.setCell ?_ (by first | omega | (dsimp only; omega) | go_size) _ | refine Ext.trans ?_ (by assumption)))⟩
  · have e := szR_none h
    have hp : szR m.bytes.length left < 0 := by omega
    have e' := Lib.hid e
    clear e
    go_enter Try.func19, Try.ntmps19
    go_wp2_with (first | (go_at_call 51; refine (c_laws_szByteS _ _ _ _ _ (by omega) (by omega) (by omega)).mono ?_; rintro e w' ⟨rfl, rfl⟩))
    go_ret
    exact ⟨ret_int e'.out.symm, (by repeat (first | exact Below.refl _ _ | assumption | refine Ext.alloc ?_ _ | refine Ext.drew ?_ | refine Ext.drewN ?_ _ | refine Ext.setCell ?_ (by first | omega | (dsimp only; omega) | go_size) _ | refine Ext.trans ?_ (by assumption)))⟩
theorem c_laws_toImage (m : Img) (F : Nat → Prop) (cs : List Value) (w : World) (hm : rep w F cs m) (hn : m.bytes.length ≤ 1048576) :
    Calls Try.prog 21 #[.agg cs.toArray] w fun e w' => ∃ A c, e = .returned (.agg #[.int .i64 m.base, .slice A m.bytes.length c]) ∧ New w.heap.size w' [.int .i64 m.base, .slice A m.bytes.length c] m ∧ Ext w w' := by
  obtain ⟨A, c, rfl, hm1, hm2, hm3, hm4⟩ := Img.open_ hm
  clear hm
  go_enter Try.func21, Try.ntmps21
  go_wp2_with (go_at_call 52; refine (c_laws_toByteS m.bytes F _ _ _ _ (rep_mk hm2 hm3 (hm4.ext (by repeat (first | exact Below.refl _ _ | assumption | refine Ext.alloc ?_ _ | refine Ext.drew ?_ | refine Ext.drewN ?_ _ | refine Ext.setCell ?_ (by first | omega | (dsimp only; omega) | go_size) _ | refine Ext.trans ?_ (by assumption))))) hn).mono ?_; rintro e w1 ⟨A', c', rfl, hnew, hb⟩; obtain ⟨hc_hb, hf_hb, hz_hb⟩ := bcell hb; try simp at hz_hb; simp only [World.size_alloc] at hnew)
  refine bodyPost_ret (v := .agg #[.int .i64 m.base, .slice A' m.bytes.length c']) (by simp only [results, Try.results21]; go_simp) rfl ?_
  exact ⟨_, _, rfl, Img.new_mk hm1 (by (apply New.less); (repeat (first | assumption | apply New.setCell | apply New.alloc | apply New.drew | apply New.drewN | refine New.ext ?_ (by assumption))); all_goals (first | omega | (dsimp only; omega) | go_size)), (by repeat (first | exact Below.refl _ _ | assumption | refine Ext.alloc ?_ _ | refine Ext.drew ?_ | refine Ext.drewN ?_ _ | refine Ext.setCell ?_ (by first | omega | (dsimp only; omega) | go_size) _ | refine Ext.trans ?_ (by assumption)))⟩
theorem c_laws_eqImage (m : Img) (F G : Nat → Prop) (cs ds : List Value) (w : World) (h : rep w F cs m) (h' : rep w G ds m) :
    Calls Try.prog 23 #[.agg cs.toArray, .agg ds.toArray] w fun e w' => e = .returned (.bool true) ∧ Ext w w' := by
  obtain ⟨A, c, rfl, hm1, hm2, hm3, hm4⟩ := Img.open_ h
  obtain ⟨B, d, rfl, _, hk2, hk3, hk4⟩ := Img.open_ h'
  clear h h'
  go_enter Try.func23, Try.ntmps23
  go_wp2_with (go_at_call 54; refine (c_laws_eqByteS m.bytes F G _ _ _ (rep_mk hm2 hm3 (hm4.ext (by repeat (first | exact Below.refl _ _ | assumption | refine Ext.alloc ?_ _ | refine Ext.drew ?_ | refine Ext.drewN ?_ _ | refine Ext.setCell ?_ (by first | omega | (dsimp only; omega) | go_size) _ | refine Ext.trans ?_ (by assumption))))) (rep_mk hk2 hk3 (hk4.ext (by repeat (first | exact Below.refl _ _ | assumption | refine Ext.alloc ?_ _ | refine Ext.drew ?_ | refine Ext.drewN ?_ _ | refine Ext.setCell ?_ (by first | omega | (dsimp only; omega) | go_size) _ | refine Ext.trans ?_ (by assumption)))))).mono ?_; rintro e w1 ⟨rfl, hb1⟩)
  go_ret
  exact ⟨rfl, (by repeat (first | exact Below.refl _ _ | assumption | refine Ext.alloc ?_ _ | refine Ext.drew ?_ | refine Ext.drewN ?_ _ | refine Ext.setCell ?_ (by first | omega | (dsimp only; omega) | go_size) _ | refine Ext.trans ?_ (by assumption)))⟩

/-- The byte of an image at a place; -1: there is none. -/
def imgByte (m : Img) (at_ : Int) : Int := if imgB m && inB at_ m.base (m.base + m.bytes.length - 1) then (((m.bytes[(at_ - m.base).toNat]?).getD 0).toNat : Int) else -1
theorem c_impl_ImageByte (m : Img) (at_ : Int) (F : Nat → Prop) (cs : List Value) (w : World) (h : rep w F cs m) (_ : I64 at_) :
    Calls Try.prog 28 #[.agg cs.toArray, .int .i64 at_] w fun e w' => e = .returned (.int .i64 (imgByte m at_)) ∧ Ext w w' := by
  have hm := h
  obtain ⟨A, c, rfl, hm1, hm2, hm3, hm4⟩ := Img.open_ h
  clear h
  by_cases h1 : imgB m = true
  rotate_left
  · go_enter Try.func28, Try.ntmps28
    go_wp2_with (first | (first | (go_at_call 49; refine (c_impl_within _ _ _ _).mono ?_; rintro e w' ⟨rfl, rfl⟩)) | (go_at_call 22; refine (c_impl_ImageValid m F _ _ (rep_ext hm (by repeat (first | exact Below.refl _ _ | assumption | refine Ext.alloc ?_ _ | refine Ext.drew ?_ | refine Ext.drewN ?_ _ | refine Ext.setCell ?_ (by first | omega | (dsimp only; omega) | go_size) _ | refine Ext.trans ?_ (by assumption))))).mono ?_; rintro e w1 ⟨rfl, hb1⟩; obtain ⟨hc_hb1, hf_hb1, hz_hb1⟩ := bcell hb1; try simp at hz_hb1))
    go_ret
    exact ⟨ret_int (by simp [imgByte, h1]), (by repeat (first | exact Below.refl _ _ | assumption | refine Ext.alloc ?_ _ | refine Ext.drew ?_ | refine Ext.drewN ?_ _ | refine Ext.setCell ?_ (by first | omega | (dsimp only; omega) | go_size) _ | refine Ext.trans ?_ (by assumption)))⟩
  have hb := imgB_iff.1 h1
  have hbb := baseB_iff.1 hb.1
  have hb0 := hbb.1
  have hb1 := hbb.2.1
  have hb2 := hb.2
  clear hb hbb
  by_cases h2 : inB at_ m.base (m.base + m.bytes.length - 1) = true
  rotate_left
  · go_enter Try.func28, Try.ntmps28
    go_wp2_with (first | (first | (go_at_call 49; refine (c_impl_within _ _ _ _).mono ?_; rintro e w' ⟨rfl, rfl⟩)) | (go_at_call 22; refine (c_impl_ImageValid m F _ _ (rep_ext hm (by repeat (first | exact Below.refl _ _ | assumption | refine Ext.alloc ?_ _ | refine Ext.drew ?_ | refine Ext.drewN ?_ _ | refine Ext.setCell ?_ (by first | omega | (dsimp only; omega) | go_size) _ | refine Ext.trans ?_ (by assumption))))).mono ?_; rintro e w1 ⟨rfl, hb1⟩; obtain ⟨hc_hb1, hf_hb1, hz_hb1⟩ := bcell hb1; try simp at hz_hb1))
    go_ret
    exact ⟨ret_int (by simp [imgByte, h1, h2]), (by repeat (first | exact Below.refl _ _ | assumption | refine Ext.alloc ?_ _ | refine Ext.drew ?_ | refine Ext.drewN ?_ _ | refine Ext.setCell ?_ (by first | omega | (dsimp only; omega) | go_size) _ | refine Ext.trans ?_ (by assumption)))⟩
  have hi := inB_iff.1 h2
  obtain ⟨b, off, x, rfl, _, hbl, hx, kx, hx2⟩ := u8_at_k hm4 (at_ - m.base).toNat (by omega)
  have hxx := Lib.hid (show imgByte m at_ = (x.toNat : Int) by simp [imgByte, h1, h2, hx.out])
  go_enter Try.func28, Try.ntmps28
  go_wp2_with (first | (first | (go_at_call 49; refine (c_impl_within _ _ _ _).mono ?_; rintro e w' ⟨rfl, rfl⟩)) | (go_at_call 22; refine (c_impl_ImageValid m F _ _ (rep_ext hm (by repeat (first | exact Below.refl _ _ | assumption | refine Ext.alloc ?_ _ | refine Ext.drew ?_ | refine Ext.drewN ?_ _ | refine Ext.setCell ?_ (by first | omega | (dsimp only; omega) | go_size) _ | refine Ext.trans ?_ (by assumption))))).mono ?_; rintro e w1 ⟨rfl, hb1⟩; obtain ⟨hc_hb1, hf_hb1, hz_hb1⟩ := bcell hb1; try simp at hz_hb1))
  go_ret
  exact ⟨ret_int hxx.out.symm, (by repeat (first | exact Below.refl _ _ | assumption | refine Ext.alloc ?_ _ | refine Ext.drew ?_ | refine Ext.drewN ?_ _ | refine Ext.setCell ?_ (by first | omega | (dsimp only; omega) | go_size) _ | refine Ext.trans ?_ (by assumption)))⟩
/-- The number that bytes begin with. -/
def leN : List UInt8 → Int
  | [] => 0
  | b :: l => (b.toNat : Int) + 256 * leN l
theorem leN_bd (l : List UInt8) : 0 ≤ leN l ∧ leN l < 256 ^ l.length := by
  induction l with
  | nil => simp [leN]
  | cons b l ih =>
    have := b.toNat_lt
    simp only [leN, List.length_cons, Int.pow_succ]
    omega
theorem leN_bd4 (l : List UInt8) (h : l.length ≤ 4) : 0 ≤ leN l ∧ leN l ≤ 4294967295 := by
  have := leN_bd l
  have h2 : (256 : Int) ^ l.length ≤ 4294967296 := by
    match hl : l.length, h with
    | 0, _ => decide
    | 1, _ => decide
    | 2, _ => decide
    | 3, _ => decide
    | 4, _ => decide
  omega
theorem leN_step {a : List UInt8} {i j : Nat} {b : UInt8} (hb : Hid (a[i]? = some b)) : leN ((a.drop i).take (j + 1)) = (b.toNat : Int) + 256 * leN ((a.drop (i + 1)).take j) := by
  rw [drop_of hb]; rfl
/-- The number of 'wide' bytes from a place on; -1: they are not there. -/
def getN (a : List UInt8) (at_ wide : Int) : Int := if 1 ≤ wide ∧ wide ≤ 4 ∧ 0 ≤ at_ ∧ at_ ≤ a.length - wide then leN ((a.drop at_.toNat).take wide.toNat) else -1
theorem getN_no {a : List UInt8} {at_ wide : Int} (h : ¬ (1 ≤ wide ∧ wide ≤ 4 ∧ 0 ≤ at_ ∧ at_ ≤ a.length - wide)) : getN a at_ wide = -1 := by unfold getN; rw [if_neg h]
theorem getN_yes {a : List UInt8} {at_ wide : Int} (h : 1 ≤ wide ∧ wide ≤ 4 ∧ 0 ≤ at_ ∧ at_ ≤ a.length - wide) : getN a at_ wide = leN ((a.drop at_.toNat).take wide.toNat) := by unfold getN; rw [if_pos h]
set_option maxHeartbeats 1000000 in
theorem c_spec_GetNumber (a : List UInt8) (at_ wide : Int) (F : Nat → Prop) (v : Value) (w : World) (h : rep w F [v] a) (_ : I64 at_) (hn : a.length ≤ 1048576) :
    Calls Try.prog 59 #[v, .int .i64 at_, .int .i64 wide] w fun e w' => e = .returned (.int .i64 (getN a at_ wide)) ∧ Ext w w' := by
  obtain ⟨A, c, hv, h1, h2, h3⟩ := rep_list h
  simp only [List.cons.injEq, and_true] at hv
  subst hv
  clear h
  by_cases g1 : inB wide 1 4 = true
  rotate_left
  · go_enter Try.func59, Try.ntmps59
    go_wp2_with (first | (go_at_call 48; refine (c_spec_l1In _ _ _ _).mono ?_; rintro e w' ⟨rfl, rfl⟩))
    go_ret
    exact ⟨ret_int (getN_no (fun hh => g1 (inB_iff.2 (by omega)))).symm, (by repeat (first | exact Below.refl _ _ | assumption | refine Ext.alloc ?_ _ | refine Ext.drew ?_ | refine Ext.drewN ?_ _ | refine Ext.setCell ?_ (by first | omega | (dsimp only; omega) | go_size) _ | refine Ext.trans ?_ (by assumption)))⟩
  have g2 := inB_iff.1 g1
  by_cases h0 : 0 ≤ at_
  rotate_left
  · have h0' : at_ < 0 := by omega
    go_enter Try.func59, Try.ntmps59
    go_wp2_with (first | (go_at_call 48; refine (c_spec_l1In _ _ _ _).mono ?_; rintro e w' ⟨rfl, rfl⟩))
    go_ret
    exact ⟨ret_int (getN_no (by omega)).symm, (by repeat (first | exact Below.refl _ _ | assumption | refine Ext.alloc ?_ _ | refine Ext.drew ?_ | refine Ext.drewN ?_ _ | refine Ext.setCell ?_ (by first | omega | (dsimp only; omega) | go_size) _ | refine Ext.trans ?_ (by assumption)))⟩
  by_cases hk : at_ ≤ a.length - wide
  rotate_left
  · go_enter Try.func59, Try.ntmps59
    go_wp2_with (first | (go_at_call 48; refine (c_spec_l1In _ _ _ _).mono ?_; rintro e w' ⟨rfl, rfl⟩))
    go_ret
    exact ⟨ret_int (getN_no (by omega)).symm, (by repeat (first | exact Below.refl _ _ | assumption | refine Ext.alloc ?_ _ | refine Ext.drew ?_ | refine Ext.drewN ?_ _ | refine Ext.setCell ?_ (by first | omega | (dsimp only; omega) | go_size) _ | refine Ext.trans ?_ (by assumption)))⟩
  have hy := Lib.hid (getN_yes ⟨g2.1, g2.2, h0, hk⟩)
  go_enter Try.func59, Try.ntmps59
  go_wp2_with (first | (go_at_call 48; refine (c_spec_l1In _ _ _ _).mono ?_; rintro e w' ⟨rfl, rfl⟩))
  go_loop [7, 8] (fun n i => ∃ j : Nat, (j : Int) ≤ wide ∧ i = .int .i64 (wide - 1 - j) ∧ n = .int .i64 (leN ((a.drop (at_.toNat + wide.toNat - j)).take j))) (fun _ i => (intOf i + 1).toNat)
  case atStart => exact ⟨0, by omega, by simp, by simp [leN]⟩
  case round =>
    obtain ⟨j, hj, rfl, rfl⟩ := hrel
    by_cases hlt : (j : Int) < wide
    · obtain ⟨b, off, x, rfl, _, hbl, hx, kx, hx2⟩ := u8_at_k h3 (at_ + (wide - 1 - j)).toNat (by omega)
      have hbd := leN_bd4 ((a.drop (at_.toNat + wide.toNat - j)).take j) (by simp; omega)
      have hst := Lib.hid (leN_step (j := j) hx)
      rw [show (at_ + (wide - 1 - j)).toNat + 1 = at_.toNat + wide.toNat - j from by omega] at hst
      generalize hL : leN ((a.drop (at_.toNat + wide.toNat - j)).take j) = L at hbd hst
      have hL' := Lib.hid hL
      clear hL
      go_wp2
      go_round
      case rel => exact ⟨j + 1, by omega, by congr 1; omega, by rw [show at_.toNat + wide.toNat - (j + 1) = (at_ + (wide - 1 - j)).toNat from by omega, hst.out]; congr 1; omega⟩
      case measure => simp [intOf]; omega
    · go_wp2
      go_ret
      refine ⟨ret_int ?_, (by repeat (first | exact Below.refl _ _ | assumption | refine Ext.alloc ?_ _ | refine Ext.drew ?_ | refine Ext.drewN ?_ _ | refine Ext.setCell ?_ (by first | omega | (dsimp only; omega) | go_size) _ | refine Ext.trans ?_ (by assumption)))⟩
      rw [hy.out, show j = wide.toNat from by omega, show at_.toNat + wide.toNat - wide.toNat = at_.toNat from by omega]
theorem getN_one {m : Img} {at_ : Int} (h1 : imgB m = true) (h2 : ¬ at_ < m.base) : getN m.bytes (at_ - m.base) 1 = imgByte m at_ := by
  have hb := imgB_iff.1 h1
  have hbb := baseB_iff.1 hb.1
  by_cases h : at_ ≤ m.base + m.bytes.length - 1
  · rw [getN_yes (by omega)]
    have hk : (at_ - m.base).toNat < m.bytes.length := by omega
    rw [show (1 : Int).toNat = 0 + 1 from rfl, leN_step (List.getElem?_eq_getElem hk : Hid _)]
    simp [imgByte, h1, inB, h, show m.base ≤ at_ by omega, hk, leN]
  · rw [getN_no (by omega)]
    simp [imgByte, inB]; omega
theorem c_spec_ImageByte (m : Img) (at_ : Int) (F : Nat → Prop) (cs : List Value) (w : World) (h : rep w F cs m) (hat : I64 at_) :
    Calls Try.prog 27 #[.agg cs.toArray, .int .i64 at_] w fun e w' => e = .returned (.int .i64 (imgByte m at_)) ∧ Ext w w' := by
  have hm := h
  obtain ⟨A, c, rfl, hm1, hm2, hm3, hm4⟩ := Img.open_ h
  clear h
  by_cases h1 : imgB m = true
  rotate_left
  · go_enter Try.func27, Try.ntmps27
    go_wp2_with (go_at_call 20; refine (c_spec_ImageValid m F _ _ (rep_ext hm (by repeat (first | exact Below.refl _ _ | assumption | refine Ext.alloc ?_ _ | refine Ext.drew ?_ | refine Ext.drewN ?_ _ | refine Ext.setCell ?_ (by first | omega | (dsimp only; omega) | go_size) _ | refine Ext.trans ?_ (by assumption))))).mono ?_; rintro e w1 ⟨rfl, hb1⟩; obtain ⟨hc_hb1, hf_hb1, hz_hb1⟩ := bcell hb1; try simp at hz_hb1)
    go_ret
    exact ⟨ret_int (by simp [imgByte, h1]), (by repeat (first | exact Below.refl _ _ | assumption | refine Ext.alloc ?_ _ | refine Ext.drew ?_ | refine Ext.drewN ?_ _ | refine Ext.setCell ?_ (by first | omega | (dsimp only; omega) | go_size) _ | refine Ext.trans ?_ (by assumption)))⟩
  have hb := imgB_iff.1 h1
  have hbb := baseB_iff.1 hb.1
  have hb0 := hbb.1
  have hb1 := hbb.2.1
  have hb2 := hb.2
  clear hb hbb
  by_cases h2 : at_ < m.base
  · go_enter Try.func27, Try.ntmps27
    go_wp2_with (go_at_call 20; refine (c_spec_ImageValid m F _ _ (rep_ext hm (by repeat (first | exact Below.refl _ _ | assumption | refine Ext.alloc ?_ _ | refine Ext.drew ?_ | refine Ext.drewN ?_ _ | refine Ext.setCell ?_ (by first | omega | (dsimp only; omega) | go_size) _ | refine Ext.trans ?_ (by assumption))))).mono ?_; rintro e w1 ⟨rfl, hb1⟩; obtain ⟨hc_hb1, hf_hb1, hz_hb1⟩ := bcell hb1; try simp at hz_hb1)
    go_ret
    exact ⟨ret_int (by simp [imgByte, inB]; omega), (by repeat (first | exact Below.refl _ _ | assumption | refine Ext.alloc ?_ _ | refine Ext.drew ?_ | refine Ext.drewN ?_ _ | refine Ext.setCell ?_ (by first | omega | (dsimp only; omega) | go_size) _ | refine Ext.trans ?_ (by assumption)))⟩
  have hg := Lib.hid (getN_one h1 h2)
  have ha : I64 (at_ - m.base) := by obtain ⟨x, y⟩ := hat; exact ⟨by omega, by omega⟩
  have hat1 := hat.1
  have hat2 := hat.2
  go_enter Try.func27, Try.ntmps27
  go_wp2_with (first | (go_at_call 20; refine (c_spec_ImageValid m F _ _ (rep_ext hm (by repeat (first | exact Below.refl _ _ | assumption | refine Ext.alloc ?_ _ | refine Ext.drew ?_ | refine Ext.drewN ?_ _ | refine Ext.setCell ?_ (by first | omega | (dsimp only; omega) | go_size) _ | refine Ext.trans ?_ (by assumption))))).mono ?_; rintro e w1 ⟨rfl, hb1⟩; obtain ⟨hc_hb1, hf_hb1, hz_hb1⟩ := bcell hb1; try simp at hz_hb1) | (go_at_call 59; refine (c_spec_GetNumber m.bytes _ _ F _ _ (rep_mk hm2 hm3 (hm4.ext (by repeat (first | exact Below.refl _ _ | assumption | refine Ext.alloc ?_ _ | refine Ext.drew ?_ | refine Ext.drewN ?_ _ | refine Ext.setCell ?_ (by first | omega | (dsimp only; omega) | go_size) _ | refine Ext.trans ?_ (by assumption))))) ha (by omega)).mono ?_; rintro e w2 ⟨rfl, hb3⟩))
  go_ret
  exact ⟨ret_int hg.out, (by repeat (first | exact Below.refl _ _ | assumption | refine Ext.alloc ?_ _ | refine Ext.drew ?_ | refine Ext.drewN ?_ _ | refine Ext.setCell ?_ (by first | omega | (dsimp only; omega) | go_size) _ | refine Ext.trans ?_ (by assumption)))⟩
end Go.Proofs.Ythdekdghhppkgaa
