/- The laws on places. -/
import Derived.Test.YtignicccfjdiiaaDrawL
import Derived.Test.YtignicccfjdiiaaPlcE
import Derived.Test.YtignicccfjdiiaaLnk
import Derived.Test.YtignicccfjdiiaaSame
import Derived.Test.YtignicccfjdiiaaHead
set_option linter.unusedVariables false
set_option linter.unusedSimpArgs false
set_option maxRecDepth 200000
set_option maxHeartbeats 4000000
namespace Go.Proofs.Ytignicccfjdiiaa
open Go Go.RowKit Go.ChangeShapes Go.WideShapes Go.Deep


theorem NE_self {α : Type} {x : α} (h : x ≠ x) : False := h rfl
theorem LK_ne {α : Type} {f : List α} {k : Nat} {r s : α} (h : ¬ r = s) (h1 : f[k]? = some r) (h2 : f[k]? = some s) : False := by
  rw [h1] at h2; injection h2 with h2; exact h h2
theorem P1_e {l : List Objt} {b : Int} (h : ¬ endPl l b = 0) (hl : layOk l b = false) : False := h (plc_no hl).2
theorem P1_z {l : List Objt} {b : Int} (h : ¬ ((layout l b).places.length : Int) = 0) (hl : layOk l b = false) : False := by have := (plc_no hl).1; omega
theorem P1_4 {l : List Objt} {b : Int} (h : layOk l b = true) : -9223372036854775808 ≤ endPl l b - b := by have := endP_bd h; have := lay_all h; omega
theorem P1_5 {l : List Objt} {b : Int} (h : layOk l b = true) : endPl l b - b ≤ 9223372036854775807 := by have := endP_bd h; have := lay_all h; omega
theorem P1_6 {l : List Objt} {b : Int} (h : layOk l b = true) : max 0 (endPl l b - b) ≤ 1000000000000 := by have := endP_bd h; have := lay_all h; omega
theorem P1_7 {l : List Objt} {b : Int} (h : layOk l b = true) : ((1 : Nat) : Int) * max 0 (endPl l b - b) ≤ 140737488355328 := by have := endP_bd h; have := lay_all h; omega
theorem P1_len {l : List Objt} {b k : Int} (h : (l.length : Int) ≤ k) (h1 : k < ((layout l b).places.length : Int)) (hl : layOk l b = true) : False := by have := plc_len hl; omega
theorem P1_rl {l : List Objt} {b k : Int} {o : Objt} {r : List Int} (h : (r.length : Int) ≠ o.sects.length) (hr : (layout l b).places[k.toNat]? = some r) (ho : l[k.toNat]? = some o) (hl : layOk l b = true) (hk : 0 ≤ k) : False := by have := plc_r hr ho hl hk; omega
theorem P1_pl {l : List Objt} {b k : Int} (h : layOk l b = true) (h1 : k < l.length) : k < ((layout l b).places.length : Int) := by have := plc_len h; omega
theorem P1_q {l : List Objt} {b k j : Int} {o : Objt} {r : List Int} (h : j < (r.length : Int)) (hr : (layout l b).places[k.toNat]? = some r) (ho : l[k.toNat]? = some o) (hl : layOk l b = true) (hk : 0 ≤ k) : j < (o.sects.length : Int) := by have := plc_r hr ho hl hk; omega
theorem P1_r {l : List Objt} {b k j : Int} {o : Objt} {r : List Int} {s : Sect} (hr : (layout l b).places[k.toNat]? = some r) (hs : o.sects[j.toNat]? = some s) (ho : l[k.toNat]? = some o) (hl : layOk l b = true) (hk : 0 ≤ k) (hj : 0 ≤ j) : j < (r.length : Int) := by have := plc_r hr ho hl hk; have := lt_of_some hs; omega
theorem P1_al {l : List Objt} {b k j : Int} {o : Objt} {s : Sect} (hs : o.sects[j.toNat]? = some s) (ho : l[k.toNat]? = some o) (hl : layOk l b = true) : 0 < s.align := by
  have := (secsOk_get (objB_secs (all_get (lay_all hl).1 ho)) hs).2.2.1
  rcases this with h | h | h | h <;> omega
theorem P1_sz {l : List Objt} {b k j : Int} {o : Objt} {s : Sect} (hs : o.sects[j.toNat]? = some s) (ho : l[k.toNat]? = some o) (hl : layOk l b = true) : 0 ≤ secSize s := (secsOk_get (objB_secs (all_get (lay_all hl).1 ho)) hs).2.2.2.1
theorem P1_nn {l : List Objt} {b k j v : Int} {o : Objt} {r : List Int} {s : Sect}  (hv : r[j.toNat]? = some v) (hr : (layout l b).places[k.toNat]? = some r) (hs : o.sects[j.toNat]? = some s) (ho : l[k.toNat]? = some o) (hl : layOk l b = true) (hk : 0 ≤ k) (hj : 0 ≤ j) : 0 ≤ v := by
  have g := plc_at hv hr ho hs hl hk hj
  omega
theorem P1_md {l : List Objt} {b k j v : Int} {o : Objt} {r : List Int} {s : Sect} (h : v % s.align ≠ 0) (hv : r[j.toNat]? = some v) (hr : (layout l b).places[k.toNat]? = some r) (hs : o.sects[j.toNat]? = some s) (ho : l[k.toNat]? = some o) (hl : layOk l b = true) (hk : 0 ≤ k) (hj : 0 ≤ j) : False := by
  have g := plc_at hv hr ho hs hl hk hj
  exact h g.2.1
theorem P1_lo {l : List Objt} {b k j v : Int} {o : Objt} {r : List Int} {s : Sect} (h : v < b) (hv : r[j.toNat]? = some v) (hr : (layout l b).places[k.toNat]? = some r) (hs : o.sects[j.toNat]? = some s) (ho : l[k.toNat]? = some o) (hl : layOk l b = true) (hk : 0 ≤ k) (hj : 0 ≤ j) : False := by
  have g := plc_at hv hr ho hs hl hk hj
  omega
theorem P1_b1 {l : List Objt} {b k j v : Int} {o : Objt} {r : List Int} {s : Sect}  (hv : r[j.toNat]? = some v) (hr : (layout l b).places[k.toNat]? = some r) (hs : o.sects[j.toNat]? = some s) (ho : l[k.toNat]? = some o) (hl : layOk l b = true) (hk : 0 ≤ k) (hj : 0 ≤ j) : -9223372036854775808 ≤ v + secSize s := by
  have g := plc_at hv hr ho hs hl hk hj
  omega
theorem P1_b2 {l : List Objt} {b k j v : Int} {o : Objt} {r : List Int} {s : Sect}  (hv : r[j.toNat]? = some v) (hr : (layout l b).places[k.toNat]? = some r) (hs : o.sects[j.toNat]? = some s) (ho : l[k.toNat]? = some o) (hl : layOk l b = true) (hk : 0 ≤ k) (hj : 0 ≤ j) : v + secSize s ≤ 9223372036854775807 := by
  have g := plc_at hv hr ho hs hl hk hj
  omega
theorem P1_hi {l : List Objt} {b k j v : Int} {o : Objt} {r : List Int} {s : Sect} (h : endPl l b < v + secSize s) (hv : r[j.toNat]? = some v) (hr : (layout l b).places[k.toNat]? = some r) (hs : o.sects[j.toNat]? = some s) (ho : l[k.toNat]? = some o) (hl : layOk l b = true) (hk : 0 ≤ k) (hj : 0 ≤ j) : False := by
  have g := plc_at hv hr ho hs hl hk hj
  omega
theorem P2_at {l : List Objt} {b k j v : Int} {r : List Int} {s : Sect} (hv : r[j.toNat]? = some v) (hr : (layout l b).places[k.toNat]? = some r) (hs : (sectsAt l k)[j.toNat]? = some s) (hl : layOk l b = true) (hk : 0 ≤ k) (hq : k < l.length) (hj : 0 ≤ j) :
    v = secP l b k j ∧ b ≤ v ∧ v + secSize s ≤ endPl l b ∧ 0 ≤ v ∧ v ≤ 100000 ∧ 0 ≤ secSize s ∧ secSize s ≤ 48 ∧ 0 ≤ b ∧ endPl l b ≤ 100000 := by
  have ho := List.getElem?_eq_getElem (l := l) (i := k.toNat) (by omega)
  rw [sectsAt_eq ho] at hs
  have g := plc_at hv hr ho hs hl hk hj
  exact ⟨g.1, g.2.2.1, g.2.2.2.1, g.2.2.2.2.1, g.2.2.2.2.2.1, g.2.2.2.2.2.2.2.1, g.2.2.2.2.2.2.2.2.1, g.2.2.2.2.2.2.2.2.2.1, g.2.2.2.2.2.2.2.2.2.2.1⟩
theorem P2_r {l : List Objt} {b k j : Int} {r : List Int} {s : Sect} (hr : (layout l b).places[k.toNat]? = some r) (hs : (sectsAt l k)[j.toNat]? = some s) (hl : layOk l b = true) (hk : 0 ≤ k) (hq : k < l.length) (hj : 0 ≤ j) : j < (r.length : Int) := by
  have ho := List.getElem?_eq_getElem (l := l) (i := k.toNat) (by omega)
  rw [sectsAt_eq ho] at hs
  exact P1_r hr hs ho hl hk hj
theorem P3_1 {l : List Objt} {b k j v : Int} {r : List Int} {s : Sect} (hv : r[j.toNat]? = some v) (hr : (layout l b).places[k.toNat]? = some r) (hs : (sectsAt l k)[j.toNat]? = some s) (hl : layOk l b = true) (hk : 0 ≤ k) (hq : k < l.length) (hj : 0 ≤ j)  : -9223372036854775808 ≤ v - b := by
  have g := P2_at hv hr hs hl hk hq hj
  omega
theorem P3_2 {l : List Objt} {b k j v : Int} {r : List Int} {s : Sect} (hv : r[j.toNat]? = some v) (hr : (layout l b).places[k.toNat]? = some r) (hs : (sectsAt l k)[j.toNat]? = some s) (hl : layOk l b = true) (hk : 0 ≤ k) (hq : k < l.length) (hj : 0 ≤ j)  : v - b ≤ 9223372036854775807 := by
  have g := P2_at hv hr hs hl hk hq hj
  omega
theorem P3_3 {l : List Objt} {b k j v : Int} {r : List Int} {s : Sect} (hv : r[j.toNat]? = some v) (hr : (layout l b).places[k.toNat]? = some r) (hs : (sectsAt l k)[j.toNat]? = some s) (hl : layOk l b = true) (hk : 0 ≤ k) (hq : k < l.length) (hj : 0 ≤ j) {t : Int} {u : List Bool} (hu : Used l b k j t u) (h0 : 0 ≤ t) (ht : t < secSize s) : -9223372036854775808 ≤ v - b + t := by
  have g := P2_at hv hr hs hl hk hq hj
  have gu := hu.len
  omega
theorem P3_4 {l : List Objt} {b k j v : Int} {r : List Int} {s : Sect} (hv : r[j.toNat]? = some v) (hr : (layout l b).places[k.toNat]? = some r) (hs : (sectsAt l k)[j.toNat]? = some s) (hl : layOk l b = true) (hk : 0 ≤ k) (hq : k < l.length) (hj : 0 ≤ j) {t : Int} {u : List Bool} (hu : Used l b k j t u) (h0 : 0 ≤ t) (ht : t < secSize s) : v - b + t ≤ 9223372036854775807 := by
  have g := P2_at hv hr hs hl hk hq hj
  have gu := hu.len
  omega
theorem P3_5 {l : List Objt} {b k j v : Int} {r : List Int} {s : Sect} (hv : r[j.toNat]? = some v) (hr : (layout l b).places[k.toNat]? = some r) (hs : (sectsAt l k)[j.toNat]? = some s) (hl : layOk l b = true) (hk : 0 ≤ k) (hq : k < l.length) (hj : 0 ≤ j) {t : Int} {u : List Bool} (hu : Used l b k j t u) (h0 : 0 ≤ t) (ht : t < secSize s) : 0 ≤ v - b + t := by
  have g := P2_at hv hr hs hl hk hq hj
  have gu := hu.len
  omega
theorem P3_6 {l : List Objt} {b k j v : Int} {r : List Int} {s : Sect} (hv : r[j.toNat]? = some v) (hr : (layout l b).places[k.toNat]? = some r) (hs : (sectsAt l k)[j.toNat]? = some s) (hl : layOk l b = true) (hk : 0 ≤ k) (hq : k < l.length) (hj : 0 ≤ j) {t : Int} {u : List Bool} (hu : Used l b k j t u) (h0 : 0 ≤ t) (ht : t < secSize s) : v - b + t < u.length := by
  have g := P2_at hv hr hs hl hk hq hj
  have gu := hu.len
  omega
theorem P3_7 {l : List Objt} {b k j v : Int} {r : List Int} {s : Sect} {t : Int} {u : List Bool} {y : Bool} (h : y = true) (hy : u[(v - b + t).toNat]? = some y) (hv : r[j.toNat]? = some v) (hr : (layout l b).places[k.toNat]? = some r) (hs : (sectsAt l k)[j.toNat]? = some s) (hl : layOk l b = true) (hk : 0 ≤ k) (hq : k < l.length) (hj : 0 ≤ j) (hu : Used l b k j t u) (h0 : 0 ≤ t) (ht : t < secSize s) : False := by
  have g := (P2_at hv hr hs hl hk hq hj).1
  subst g
  have := used_free hu hl hk hq hj hs h0 ht hy
  rw [this] at h; cases h
theorem P3_8 {l : List Objt} {b k j v : Int} {r : List Int} {s : Sect} {t : Int} {u : List Bool} (hv : r[j.toNat]? = some v) (hr : (layout l b).places[k.toNat]? = some r) (hs : (sectsAt l k)[j.toNat]? = some s) (hl : layOk l b = true) (hk : 0 ≤ k) (hq : k < l.length) (hj : 0 ≤ j) (hu : Used l b k j t u) (h0 : 0 ≤ t) (ht : t < secSize s) : Used l b k j (t + 1) (u.set (v - b + t).toNat true) := by
  have g := (P2_at hv hr hs hl hk hq hj).1
  subst g
  exact used_set hu hl hk hq hj hs h0 ht
theorem P3_9 {l : List Objt} {b k j t : Int} {s : Sect} (ht : t < secSize s) (hs : (sectsAt l k)[j.toNat]? = some s) (hl : layOk l b = true) : t + 1 ≤ 9223372036854775807 := by
  have := sect_ok hl hs; omega
theorem P4_1 {l : List Objt} {b k j t : Int} {s : Sect} (ht : t < secSize s) (hs : (sectsAt l k)[j.toNat]? = some s) (hl : layOk l b = true) (A : Nat) : A + (100 - (t + 1)).toNat < A + (100 - t).toNat := by
  have := sect_ok hl hs; omega
theorem P4_2 {l : List Objt} {k j : Int} {s : Sect} (hs : (sectsAt l k)[j.toNat]? = some s) (h8 : (sectsAt l k).length ≤ 8) : j + 1 ≤ 9223372036854775807 := by
  have := lt_of_some hs; omega
theorem P4_3 {l : List Objt} {k j : Int} {s : Sect} (hs : (sectsAt l k)[j.toNat]? = some s) (hj : 0 ≤ j) : j + 1 ≤ ((sectsAt l k).length : Int) := by
  have := lt_of_some hs; omega
theorem P4_4 {l : List Objt} {b k j t : Int} {s : Sect} {A B C : Nat} (hd : A + (100 - j).toNat * 100 + (100 - t).toNat ≤ B + C + ((100 : Int) - 0).toNat) (hs : (sectsAt l k)[j.toNat]? = some s) (h8 : (sectsAt l k).length ≤ 8) (hl : layOk l b = true) (h0 : 0 ≤ t) (hj : 0 ≤ j) (ht : t ≤ secSize s) : A + (100 - (j + 1)).toNat * 100 < B + C := by
  have := sect_ok hl hs; have := lt_of_some hs; omega
theorem P4_5 {l : List Objt} {b k : Int} (hk : k < l.length) (hl : layOk l b = true) : k + 1 ≤ 9223372036854775807 := by
  have := (lay_all hl).2.1; omega
theorem P4_6 {l : List Objt} {b : Int} (hl : layOk l b = true) : ((layout l b).places.length : Int) = l.length := by rw [plc_len hl]
def C_laws_FnPlaceSections : Con := { ps := [.ro (.list .u)], out := fun x => let c : List (Int) := x.1; vc .bool true, det := true }
abbrev L_laws_FnPlaceSections : List (Nat × Con) := [(22, C_spec_DrawPlaceSections), (23, C_impl_PlaceSections), (24, C_spec_PlaceSections), (18, C_laws_alive), (25, C_laws_sameInts), (26, C_impl_SectionSize)]
def G_laws_FnPlaceSections : Cfg := GK L_laws_FnPlaceSections
def an_laws_FnPlaceSections : PTL C_laws_FnPlaceSections.ps → Nat → Option Ann := fun x kk_ => let c : List (Int) := x.1; if kk_ = 12 then some (.all (List Objt) fun l => .all (Int) fun b => .all (Int) fun k => .all (List Bool) fun u => .giv (layOk l b = true ∧ 0 ≤ k ∧ k ≤ l.length ∧ Used l b k 0 0 u) (.mk [(3, al (.st .obj) l), (4, ai b), (12, ai k), (5, al (.list .i) (layout l b).places), (8, al (.list .i) (layout l b).places), (6, ai (endPl l b)), (11, asl 22)] [(22, .row (some 4) .bool u true)] ((l.length - k.toNat)))) else if kk_ = 2017 then some (.all (List Objt) fun l => .all (Int) fun b => .all (Int) fun k => .all (Int) fun j => .all (List Bool) fun u => .giv (layOk l b = true ∧ 0 ≤ k ∧ k < l.length ∧ (sectsAt l k).length ≤ 8 ∧ 0 ≤ j ∧ j ≤ (sectsAt l k).length ∧ Used l b k j 0 u) (.mk [(3, al (.st .obj) l), (4, ai b), (12, ai k), (13, ai j), (5, al (.list .i) (layout l b).places), (8, al (.list .i) (layout l b).places), (6, ai (endPl l b)), (11, asl 22)] [(22, .row (some 4) .bool u true)] ((l.length - k.toNat) * 100000 + (100 - j).toNat * 100))) else if kk_ = 2023 then some (.all (List Objt) fun l => .all (Int) fun b => .all (Int) fun k => .all (Int) fun j => .all (Int) fun i => .all (Sect) fun s => .all (List Bool) fun u => .giv (layOk l b = true ∧ 0 ≤ k ∧ k < l.length ∧ (sectsAt l k).length ≤ 8 ∧ 0 ≤ j ∧ (sectsAt l k)[j.toNat]? = some s ∧ 0 ≤ i ∧ i ≤ secSize s ∧ Used l b k j i u) (.mk [(3, al (.st .obj) l), (4, ai b), (12, ai k), (13, ai j), (15, ai i), (5, al (.list .i) (layout l b).places), (8, al (.list .i) (layout l b).places), (6, ai (endPl l b)), (11, asl 22), (14, aref 31)] [(22, .row (some 4) .bool u true), (31, bx (ast .sect s))] ((l.length - k.toNat) * 100000 + (100 - j).toNat * 100 + (100 - i).toNat))) else none
theorem vc_laws_FnPlaceSections (c : List (Int)) : (KP Try.f5 G_laws_FnPlaceSections C_laws_FnPlaceSections an_laws_FnPlaceSections (c, ())) = (c.length ≤ 9223372036854775807 →
 (decide (1048576 < LN c) = true →
 true = true ∧ True) ∧ (decide (1048576 < LN c) = false →
 (∀ (a : List Objt), (∀ (b : Int), a.length ≤ 5 ∧ objsA a = true ∧ (- (8 : Int)) ≤ b ∧ b ≤ 4104 →
 LN a + @sumI Objt szOb a ≤ 1048576 ∧ ((layout a b).places.length ≤ 9223372036854775807 →
 (layout a b).places.length ≤ 9223372036854775807 →
 (decide (LN (layout a b).places ≠ LN (layout a b).places) = true →
 false = true ∧ True) ∧ (decide (LN (layout a b).places ≠ LN (layout a b).places) = false →
 (decide (endPl a b ≠ endPl a b) = true →
 false = true ∧ True) ∧ (decide (endPl a b ≠ endPl a b) = false →
 (decide (layOk a b ≠ layOk a b) = true →
 false = true ∧ True) ∧ (decide (layOk a b ≠ layOk a b) = false →
 (Bool.not (layOk a b) = true →
 (layout a b).places.length ≤ 9223372036854775807 →
 (decide (LN (layout a b).places = 0) = true →
 (decide (endPl a b = 0) = true →
 true = true ∧ True) ∧ (decide (endPl a b = 0) = false →
 false = true ∧ True)) ∧ (decide (LN (layout a b).places = 0) = false →
 false = true ∧ True)) ∧ (Bool.not (layOk a b) = false →
 i64 (endPl a b - b) ∧ (@Max.max Int _ (0 : Int) (endPl a b - b) = @Max.max Int _ (0 : Int) (endPl a b - b) ∧ 0 ≤ @Max.max Int _ (0 : Int) (endPl a b - b) ∧ @Max.max Int _ (0 : Int) (endPl a b - b) ≤ 1000000000000 ∧ @Nat.cast Int _ (1 : Nat) * @Max.max Int _ (0 : Int) (endPl a b - b) ≤ 140737488355328) ∧ (∃ (d : List Objt), (∃ (e : Int), (∃ (f : Int), (∃ (g : List Bool), a = d ∧ b = e ∧ 0 = f ∧ (layout a b).places = (layout d e).places ∧ (layout a b).places = (layout d e).places ∧ endPl a b = endPl d e ∧ @repl Bool (@Max.max Int _ (0 : Int) (endPl a b - b)) false = g ∧ (layOk d e = true ∧ 0 ≤ f ∧ f ≤ LN d ∧ Used d e f 0 0 g) ∧ True)))) ∧ (∀ (h : List Objt), (∀ (i : Int), (∀ (j : Int), (∀ (k : List Bool), layOk h i = true ∧ 0 ≤ j ∧ j ≤ LN h ∧ Used h i j 0 0 k →
 (layout h i).places.length ≤ 9223372036854775807 →
 (decide (j < LN (layout h i).places) = true →
 (0 ≤ j ∧ j < LN (layout h i).places) ∧ (∀ (l : List Int), (layout h i).places[j.toNat]? = some l →
 Ok (Ty.list (Ty.int IntKind.i64)) l →
 (0 ≤ j ∧ j < LN (layout h i).places) ∧ (∀ (m : List Int), (layout h i).places[j.toNat]? = some m →
 Ok (Ty.list (Ty.int IntKind.i64)) m →
 (Bool.not (decide (l = m)) = true →
 false = true ∧ True) ∧ (Bool.not (decide (l = m)) = false →
 h.length ≤ 9223372036854775807 →
 (decide (LN h ≤ j) = true →
 false = true ∧ True) ∧ (decide (LN h ≤ j) = false →
 (0 ≤ j ∧ j < LN (layout h i).places) ∧ (∀ (n : List Int), (layout h i).places[j.toNat]? = some n →
 Ok (Ty.list (Ty.int IntKind.i64)) n →
 n.length ≤ 9223372036854775807 →
 (0 ≤ j ∧ j < LN h) ∧ (∀ (o : Objt), h[j.toNat]? = some o →
 Ok (Ty.st SN.obj) o →
 o.sects.length ≤ 9223372036854775807 →
 (decide (LN n ≠ LN o.sects) = true →
 false = true ∧ True) ∧ (decide (LN n ≠ LN o.sects) = false →
 (∃ (p : List Objt), (∃ (q : Int), (∃ (r : Int), (∃ (s : Int), (∃ (t : List Bool), h = p ∧ i = q ∧ j = r ∧ 0 = s ∧ (layout h i).places = (layout p q).places ∧ (layout h i).places = (layout p q).places ∧ endPl h i = endPl p q ∧ k = t ∧ (layOk p q = true ∧ 0 ≤ r ∧ r < LN p ∧ (sectsAt p r).length ≤ 8 ∧ 0 ≤ s ∧ s ≤ LN (sectsAt p r) ∧ Used p q r s 0 t) ∧ (∀ (u : List Objt), (∀ (v : Int), (∀ (w : Int), (∀ (x : Int), (∀ (y : List Bool), layOk u v = true ∧ 0 ≤ w ∧ w < LN u ∧ (sectsAt u w).length ≤ 8 ∧ 0 ≤ x ∧ x ≤ LN (sectsAt u w) ∧ Used u v w x 0 y →
 (u.length - w.toNat) * 100000 + (100 - x).toNat * 100 ≤ (p.length - r.toNat) * 100000 + (100 - s).toNat * 100 →
 (0 ≤ w ∧ w < LN (layout u v).places) ∧ (∀ (z : List Int), (layout u v).places[w.toNat]? = some z →
 Ok (Ty.list (Ty.int IntKind.i64)) z →
 z.length ≤ 9223372036854775807 →
 (decide (x < LN z) = true →
 (0 ≤ w ∧ w < LN u) ∧ (∀ (A : Objt), u[w.toNat]? = some A →
 Ok (Ty.st SN.obj) A →
 (0 ≤ x ∧ x < LN A.sects) ∧ (∀ (B : Sect), A.sects[x.toNat]? = some B →
 Ok (Ty.st SN.sect) B →
 (0 ≤ w ∧ w < LN (layout u v).places) ∧ (∀ (C : List Int), (layout u v).places[w.toNat]? = some C →
 Ok (Ty.list (Ty.int IntKind.i64)) C →
 (0 ≤ x ∧ x < LN C) ∧ (∀ (D : Int), C[x.toNat]? = some D →
 Ok (Ty.int IntKind.i64) D →
 (0 ≤ D ∧ 0 < B.align) ∧ (decide (D % B.align ≠ 0) = true →
 false = true ∧ True) ∧ (decide (D % B.align ≠ 0) = false →
 (0 ≤ w ∧ w < LN (layout u v).places) ∧ (∀ (E : List Int), (layout u v).places[w.toNat]? = some E →
 Ok (Ty.list (Ty.int IntKind.i64)) E →
 (0 ≤ x ∧ x < LN E) ∧ (∀ (F : Int), E[x.toNat]? = some F →
 Ok (Ty.int IntKind.i64) F →
 (decide (F < v) = true →
 false = true ∧ True) ∧ (decide (F < v) = false →
 (0 ≤ w ∧ w < LN (layout u v).places) ∧ (∀ (G : List Int), (layout u v).places[w.toNat]? = some G →
 Ok (Ty.list (Ty.int IntKind.i64)) G →
 (0 ≤ x ∧ x < LN G) ∧ (∀ (H : Int), G[x.toNat]? = some H →
 Ok (Ty.int IntKind.i64) H →
 i64 (H + secSize B) ∧ (decide (endPl u v < H + secSize B) = true →
 false = true ∧ True) ∧ (decide (endPl u v < H + secSize B) = false →
 (∃ (I : List Objt), (∃ (J : Int), (∃ (K : Int), (∃ (L : Int), (∃ (M : Int), (∃ (N : Sect), (∃ (O : List Bool), u = I ∧ v = J ∧ w = K ∧ x = L ∧ 0 = M ∧ (layout u v).places = (layout I J).places ∧ (layout u v).places = (layout I J).places ∧ endPl u v = endPl I J ∧ y = O ∧ B.name = N.name ∧ B.kind = N.kind ∧ B.align = N.align ∧ B.bytes = N.bytes ∧ B.size = N.size ∧ B.fixups = N.fixups ∧ (layOk I J = true ∧ 0 ≤ K ∧ K < LN I ∧ (sectsAt I K).length ≤ 8 ∧ 0 ≤ L ∧ (sectsAt I K)[L.toNat]? = some N ∧ 0 ≤ M ∧ M ≤ secSize N ∧ Used I J K L M O) ∧ (∀ (P : List Objt), (∀ (Q : Int), (∀ (R : Int), (∀ (S : Int), (∀ (T : Int), (∀ (U : Sect), (∀ (V : List Bool), layOk P Q = true ∧ 0 ≤ R ∧ R < LN P ∧ (sectsAt P R).length ≤ 8 ∧ 0 ≤ S ∧ (sectsAt P R)[S.toNat]? = some U ∧ 0 ≤ T ∧ T ≤ secSize U ∧ Used P Q R S T V →
 (P.length - R.toNat) * 100000 + (100 - S).toNat * 100 + (100 - T).toNat ≤ (I.length - K.toNat) * 100000 + (100 - L).toNat * 100 + (100 - M).toNat →
 (decide (T < secSize U) = true →
 (0 ≤ R ∧ R < LN (layout P Q).places) ∧ (∀ (W : List Int), (layout P Q).places[R.toNat]? = some W →
 Ok (Ty.list (Ty.int IntKind.i64)) W →
 (0 ≤ S ∧ S < LN W) ∧ (∀ (X : Int), W[S.toNat]? = some X →
 Ok (Ty.int IntKind.i64) X →
 i64 (X - Q) ∧ i64 (X - Q + T) ∧ (0 ≤ X - Q + T ∧ X - Q + T < LN V) ∧ (∀ (Y : Bool), V[(X - Q + T).toNat]? = some Y →
 Ok Ty.bool Y →
 (Y = true →
 false = true ∧ True) ∧ (Y = false →
 (0 ≤ R ∧ R < LN (layout P Q).places) ∧ (∀ (Z : List Int), (layout P Q).places[R.toNat]? = some Z →
 Ok (Ty.list (Ty.int IntKind.i64)) Z →
 (0 ≤ S ∧ S < LN Z) ∧ (∀ (aa : Int), Z[S.toNat]? = some aa →
 Ok (Ty.int IntKind.i64) aa →
 i64 (aa - Q) ∧ i64 (aa - Q + T) ∧ (0 ≤ aa - Q + T ∧ aa - Q + T < LN V) ∧ (∀ (ab : Bool), V[(aa - Q + T).toNat]? = some ab →
 i64 (T + 1) ∧ (∃ (ac : List Objt), (∃ (ad : Int), (∃ (ae : Int), (∃ (af : Int), (∃ (ag : Int), (∃ (ah : Sect), (∃ (ai : List Bool), P = ac ∧ Q = ad ∧ R = ae ∧ S = af ∧ T + 1 = ag ∧ (layout P Q).places = (layout ac ad).places ∧ (layout P Q).places = (layout ac ad).places ∧ endPl P Q = endPl ac ad ∧ V.set (aa - Q + T).toNat true = ai ∧ U.name = ah.name ∧ U.kind = ah.kind ∧ U.align = ah.align ∧ U.bytes = ah.bytes ∧ U.size = ah.size ∧ U.fixups = ah.fixups ∧ (layOk ac ad = true ∧ 0 ≤ ae ∧ ae < LN ac ∧ (sectsAt ac ae).length ≤ 8 ∧ 0 ≤ af ∧ (sectsAt ac ae)[af.toNat]? = some ah ∧ 0 ≤ ag ∧ ag ≤ secSize ah ∧ Used ac ad ae af ag ai) ∧ (ac.length - ae.toNat) * 100000 + (100 - af).toNat * 100 + (100 - ag).toNat < (P.length - R.toNat) * 100000 + (100 - S).toNat * 100 + (100 - T).toNat))))))))))))))) ∧ (decide (T < secSize U) = false →
 i64 (S + 1) ∧ (∃ (aj : List Objt), (∃ (ak : Int), (∃ (al : Int), (∃ (am : Int), (∃ (an : List Bool), P = aj ∧ Q = ak ∧ R = al ∧ S + 1 = am ∧ (layout P Q).places = (layout aj ak).places ∧ (layout P Q).places = (layout aj ak).places ∧ endPl P Q = endPl aj ak ∧ V = an ∧ (layOk aj ak = true ∧ 0 ≤ al ∧ al < LN aj ∧ (sectsAt aj al).length ≤ 8 ∧ 0 ≤ am ∧ am ≤ LN (sectsAt aj al) ∧ Used aj ak al am 0 an) ∧ (aj.length - al.toNat) * 100000 + (100 - am).toNat * 100 < (u.length - w.toNat) * 100000 + (100 - x).toNat * 100)))))))))))))))))))))))))))))))) ∧ (decide (x < LN z) = false →
 i64 (w + 1) ∧ (∃ (ao : List Objt), (∃ (ap : Int), (∃ (aq : Int), (∃ (ar : List Bool), u = ao ∧ v = ap ∧ w + 1 = aq ∧ (layout u v).places = (layout ao ap).places ∧ (layout u v).places = (layout ao ap).places ∧ endPl u v = endPl ao ap ∧ y = ar ∧ (layOk ao ap = true ∧ 0 ≤ aq ∧ aq ≤ LN ao ∧ Used ao ap aq 0 0 ar) ∧ ao.length - aq.toNat < h.length - j.toNat)))))))))))))))))))))))) ∧ (decide (j < LN (layout h i).places) = false →
 (layout h i).places.length ≤ 9223372036854775807 →
 h.length ≤ 9223372036854775807 →
 decide (LN (layout h i).places = LN h) = true ∧ True)))))))))))))) := by kernel_rfl
theorem det_laws_FnPlaceSections : C_laws_FnPlaceSections.det = true → ∀ x, (C_laws_FnPlaceSections.out x).Det := fun _ _ => Det.vc'
theorem ok_laws_FnPlaceSections : ConOK Try.prog 5 C_laws_FnPlaceSections := by
  refine con_q (l := L_laws_FnPlaceSections) ⟨⟨ok_spec_DrawPlaceSections, det_spec_DrawPlaceSections⟩, ⟨⟨ok_impl_PlaceSections, det_impl_PlaceSections⟩, ⟨⟨ok_spec_PlaceSections, det_spec_PlaceSections⟩, ⟨⟨ok_laws_alive, det_laws_alive⟩, ⟨⟨ok_laws_sameInts, det_laws_sameInts⟩, ⟨⟨ok_impl_SectionSize, det_impl_SectionSize⟩, trivial⟩⟩⟩⟩⟩⟩ Try.func5 rfl (by decide) (by kernel_rfl) rfl an_laws_FnPlaceSections fun x ho hx => ?_
  obtain ⟨c, ⟨⟩⟩ := x
  refine Keeps.of (vc_laws_FnPlaceSections c) ?_
  revert c ho hx
  show ∀ (c : List (Int)), _
  intro c ho hx
  dsimp only [C_laws_FnPlaceSections, okPTL, okPT, Ok, Ty.cells, SN.cells, OkL, OkC, okI, ci, cb, cs, cl] at ho
  dsimp only [C_laws_FnPlaceSections, vc, v1, decB, SR.pre] at hx
  (try delta i64 LN); simp only [DRt, ex_sect2]; (repeat' first | apply And.intro | (intro x hq _; replace hq := List.mem_of_getElem? hq; simp only [List.mem_cons, List.not_mem_nil, or_false] at hq) | intro _); all_goals (try omega)
  all_goals first
    | omega
    | (have := objsA_sz (by assumption) (by omega); omega)
    | exact used_first _ (by assumption) rfl
    | exact NE_self (by assumption)
    | exact LK_ne (by assumption) (by assumption) (by assumption)
    | exact P1_e (by assumption) (by assumption)
    | exact P1_z (by assumption) (by assumption)
    | exact P1_4 (by assumption)
    | exact P1_5 (by assumption)
    | exact P1_6 (by assumption)
    | exact P1_7 (by assumption)
    | exact P1_len (by assumption) (by assumption) (by assumption)
    | exact P1_rl (by assumption) (by assumption) (by assumption) (by assumption) (by assumption)
    | exact P1_pl (by assumption) (by assumption)
    | exact P1_q (by assumption) (by assumption) (by assumption) (by assumption) (by assumption)
    | exact P1_r (by assumption) (by assumption) (by assumption) (by assumption) (by assumption) (by assumption)
    | exact P2_r (by assumption) (by assumption) (by assumption) (by assumption) (by assumption) (by assumption)
    | exact P1_al (by assumption) (by assumption) (by assumption)
    | exact P1_nn (by assumption) (by assumption) (by assumption) (by assumption) (by assumption) (by assumption) (by assumption)
    | exact P1_md (by assumption) (by assumption) (by assumption) (by assumption) (by assumption) (by assumption) (by assumption) (by assumption)
    | exact P1_lo (by assumption) (by assumption) (by assumption) (by assumption) (by assumption) (by assumption) (by assumption) (by assumption)
    | exact P1_b1 (by assumption) (by assumption) (by assumption) (by assumption) (by assumption) (by assumption) (by assumption)
    | exact P1_b2 (by assumption) (by assumption) (by assumption) (by assumption) (by assumption) (by assumption) (by assumption)
    | exact P1_hi (by assumption) (by assumption) (by assumption) (by assumption) (by assumption) (by assumption) (by assumption) (by assumption)
    | exact sectsAt_get (by assumption) (by assumption)
    | exact P1_sz (by assumption) (by assumption) (by assumption)
    | exact sects8 (by assumption)
    | exact used_obj (by assumption)
    | exact used_sec (by assumption)
    | exact P3_1 (by assumption) (by assumption) (by assumption) (by assumption) (by assumption) (by assumption) (by assumption)
    | exact P3_2 (by assumption) (by assumption) (by assumption) (by assumption) (by assumption) (by assumption) (by assumption)
    | exact P3_3 (by assumption) (by assumption) (by assumption) (by assumption) (by assumption) (by assumption) (by assumption) (by assumption) (by assumption) (by assumption)
    | exact P3_4 (by assumption) (by assumption) (by assumption) (by assumption) (by assumption) (by assumption) (by assumption) (by assumption) (by assumption) (by assumption)
    | exact P3_5 (by assumption) (by assumption) (by assumption) (by assumption) (by assumption) (by assumption) (by assumption) (by assumption) (by assumption) (by assumption)
    | exact P3_6 (by assumption) (by assumption) (by assumption) (by assumption) (by assumption) (by assumption) (by assumption) (by assumption) (by assumption) (by assumption)
    | exact P3_7 (by assumption) (by assumption) (by assumption) (by assumption) (by assumption) (by assumption) (by assumption) (by assumption) (by assumption) (by assumption) (by assumption) (by assumption)
    | exact P3_8 (by assumption) (by assumption) (by assumption) (by assumption) (by assumption) (by assumption) (by assumption) (by assumption) (by assumption) (by assumption)
    | exact P3_9 (by assumption) (by assumption) (by assumption)
    | exact P4_1 (by assumption) (by assumption) (by assumption) _
    | exact P4_2 (by assumption) (by assumption)
    | exact P4_3 (by assumption) (by assumption)
    | exact P4_4 (by assumption) (by assumption) (by assumption) (by assumption) (by assumption) (by assumption) (by assumption)
    | exact P4_5 (by assumption) (by assumption)
    | exact P4_6 (by assumption)
    | skip

theorem rd_u : Reads Try.prog 5 [.u] := reads_u8 Try.underlying5
theorem rd_uL : Reads Try.prog 22 [(.list .u)] := reads_slice (t' := .u) Try.underlying22 (by kernel_rfl) (by decide) rd_u
set_option maxRecDepth 100000 in
theorem lifted_FnPlaceSections (os : Os) (started : os.Started) (H : Type) (enc : TypeId × Value → H) :
    ReturnsInHanded {} Try.checked os 5 .any (Rows.fnPlaceSectionsSpec.pre6 enc Try.prog Try.f5 Rows.fnPlaceSectionsRow.domain false) (Rows.fnPlaceSectionsSpec.post enc Try.prog Try.f5 false true false false) := by
  refine returnsInHanded_of_change (C := Try.checked) head_own started (by kernel_rfl) Try.func5
    (ChangeSpec.witness6 (enc := enc) (C := Try.checked) false ⟨#[], #[.slice none 0 0], []⟩ 8 (by kernel_rfl) (by kernel_rfl) (by kernel_rfl) (by kernel_rfl)) ?_
  intro W base args ds gs before hval0 hW _ _
  have hval : ∀ (j : Nat) t v, Try.f5.params[j]? = some t → args[j]? = some v → Value.okWide Try.prog W .any base t v := hval0
  have hW' := hW
  obtain ⟨p, q, hA0, hV, rfl, hfz, hnd⟩ := hW
  have hA : DataW.TrodAll enc Try.prog W 0 (fun _ => true) true Try.f5.params.toList args.toList ds p := hA0
  rw [Try.params5] at hA hval
  obtain ⟨v0, vs0, d0, ds0, p0, q0, hargs, rfl, rfl, h0, r0⟩ := trodAll_cons hA
  obtain ⟨rfl, rfl, rfl⟩ := trodAll_nil r0
  obtain rfl : args = #[v0] := by cases args; simp_all
  obtain ⟨rfl, rfl⟩ := trodVars_none hV
  have k0 := h0
  obtain ⟨x0, g0⟩ := open_slice1 Try.underlying22 rd_uL (hval 0 22 v0 rfl rfl) h0
  clear hA0 hval0 hval
  refine (law_calls ok_laws_FnPlaceSections (x0, ()) rfl rfl (W := W) (vals := [v0]) ⟨g0, trivial⟩).mono fun e W' ⟨he, bel⟩ => ?_
  subst he
  exact ⟨_, rfl, _, _, _, [], _, [], hW', trodAll_mk1 (shut_bool Try.underlying4 _), (trodAll_cons_mk (Below.trod head_laid (by kernel_rfl) (of_decide_eq_true (by kernel_rfl)) k0 bel (trod_lt_ k0)) trodAll_mk0), rfl, bel.frame _, fun h => by cases h⟩

theorem over_FnPlaceSections : Rows.fnPlaceSectionsRow.holds Try.pinned (OpenSpec.ofChange Rows.fnPlaceSectionsSpec) :=
  OpenClaim.holds_of_wide 5 Try.f5 rfl rfl rfl rfl rfl rfl rfl ⟨rfl, rfl, rfl, rfl, rfl⟩ rfl rfl rfl rfl rfl (by kernel_rfl) Try.func5 (joined_of head_laid head_rowed head_stops head_stopk head_heard head_enter (show (Rows.fnPlaceSectionsRow.lifted == Try.prog.liftsFinal) = true by rw [head_final]; rfl) (show (Try.prog.make == some Rows.fnPlaceSectionsRow.make) = true by rw [head_make]; rfl) (by kernel_rfl))
    (of_decide_eq_true (by kernel_rfl)) (by unfold Func.isWrapper; first | (rw [if_pos (by decide +kernel)]; kernel_rfl) | (rw [if_neg (by decide +kernel)]; exact ⟨rfl, rfl⟩))
    (fun os started H enc _ => lifted_FnPlaceSections os started H enc)

theorem proved_FnPlaceSections : Rows.FnPlaceSectionsSaid := over_FnPlaceSections
#print axioms proved_FnPlaceSections

end Go.Proofs.Ytignicccfjdiiaa
