/- The laws on places. -/
import Derived.Test.YtignicccfjdiiaaDrawL
import Derived.Test.YtignicccfjdiiaaPlcE
import Derived.Test.YtignicccfjdiiaaLnk
import Derived.Test.YtignicccfjdiiaaSame
import Derived.Test.YtignicccfjdiiaaHead
set_option linter.unusedVariables false
set_option linter.unusedSimpArgs false
set_option maxRecDepth 200000
set_option maxHeartbeats 4000000
namespace Go.Proofs.Ytignicccfjdiiaa
open Go Go.RowKit Go.ChangeShapes Go.WideShapes Go.Deep


theorem LK_ne {α : Type} {f : List α} {k : Nat} {r s : α} (h : ¬ r = s) (h1 : f[k]? = some r) (h2 : f[k]? = some s) : False := by
  rw [h1] at h2; injection h2 with h2; exact h h2
theorem KA_2 {l : List Objt} {b k : Int} {x : List Int} (h : (x.length : Int) ≠ 2) (hx : (layout l b).ends[k.toNat]? = some x) (hl : layOk l b = true) (h0 : 0 ≤ k) : False := by
  rw [(endsK_get hl h0 hx).1] at h; exact h rfl
theorem KA_0 {l : List Objt} {b k : Int} {x : List Int} (hx : (layout l b).ends[k.toNat]? = some x) (hl : layOk l b = true) (h0 : 0 ≤ k) : 0 < (x.length : Int) := by
  rw [(endsK_get hl h0 hx).1]; simp
theorem KA_1 {l : List Objt} {b k : Int} {x : List Int} (hx : (layout l b).ends[k.toNat]? = some x) (hl : layOk l b = true) (h0 : 0 ≤ k) : 1 < (x.length : Int) := by
  rw [(endsK_get hl h0 hx).1]; simp
theorem KA_lo {l : List Objt} {b k p a : Int} {x : List Int} (h : p < a) (hp : x[0]? = some p) (hx : (layout l b).ends[k.toNat]? = some x) (ha : a = atK l b k.toNat) (hl : layOk l b = true) (h0 : 0 ≤ k) : False := by
  have g := endsK_get hl h0 hx
  rw [g.1] at hp; simp at hp; omega
theorem KA_od {l : List Objt} {b k p q : Int} {x y : List Int} (h : q < p) (hp : x[0]? = some p) (hq : y[1]? = some q) (hx : (layout l b).ends[k.toNat]? = some x) (hy : (layout l b).ends[k.toNat]? = some y) (hl : layOk l b = true) (h0 : 0 ≤ k) : False := by
  have g := endsK_get hl h0 hx
  have g2 := endsK_get hl h0 hy
  rw [g.1] at hp; rw [g2.1] at hq; simp at hp hq; omega
theorem KA_nn {l : List Objt} {b k p : Int} {x : List Int} (hp : x[0]? = some p) (hx : (layout l b).ends[k.toNat]? = some x) (hl : layOk l b = true) (h0 : 0 ≤ k) : 0 ≤ p := by
  have g := endsK_get hl h0 hx
  have hb := lay_all hl
  have := (atK_bd (b := b) hb.1 hb.2.1 k.toNat).1
  rw [g.1] at hp; simp at hp; omega
theorem KA_8 {l : List Objt} {b k p : Int} {x : List Int} (h : p % 8 ≠ 0) (hp : x[0]? = some p) (hx : (layout l b).ends[k.toNat]? = some x) (hl : layOk l b = true) (h0 : 0 ≤ k) : False := by
  have g := endsK_get hl h0 hx
  rw [g.1] at hp; simp at hp; omega
theorem KA_j {l : List Objt} {b k : Int} {x : List Int} (hx : (layout l b).ends[k.toNat]? = some x) (hl : layOk l b = true) (h0 : 0 ≤ k) : k + 1 ≤ 3 := by
  have g := endsK_get hl h0 hx; omega
theorem KA_d {l : List Objt} {b k : Int} {x : List Int} (hx : (layout l b).ends[k.toNat]? = some x) (hl : layOk l b = true) (h0 : 0 ≤ k) : (3 - (k + 1)).toNat < (3 - k).toNat := by
  have g := endsK_get hl h0 hx; omega
theorem KA_at {l : List Objt} {b k p : Int} {x : List Int} (hp : x[1]? = some p) (hx : (layout l b).ends[k.toNat]? = some x) (hl : layOk l b = true) (h0 : 0 ≤ k) : p = atK l b (k + 1).toNat := by
  have g := endsK_get hl h0 hx
  rw [g.1] at hp; simp at hp; omega
theorem atK0 {l : List Objt} {b : Int} : b = atK l b (Int.toNat 0) := rfl
theorem KA_ok {l : List Objt} {b : Int} (h : ¬ ((layout l b).ends.length : Int) = 0) : layOk l b = true := by
  cases hl : layOk l b with
  | true => rfl
  | false => rw [layout_no hl] at h; exact absurd rfl h
theorem KA_KE {l : List Objt} {b k a : Int} (h : ((layout l b).ends.length : Int) ≤ k) (ha : a = atK l b k.toNat) (hl : layOk l b = true) (h3 : k ≤ 3) : KE l (layout l b).ends (layout l b).places a (endPl l b) := by
  have e : (layout l b).ends.length = 3 := by rw [layout_yes hl]; rfl
  have : k = 3 := by omega
  subst this; subst ha
  exact KE_mk hl
theorem KB_pl {l : List Objt} {e p : List (List Int)} {a z k : Int} (h : KE l e p a z) (hk : k < l.length) : k < p.length := by
  have := (KE_8 h 0).2.2.1; omega
theorem KB_q {l : List Objt} {k i : Int} {o q : Objt} (hi : i < o.sects.length) (ho : l[k.toNat]? = some o) (hq : l[k.toNat]? = some q) : i < q.sects.length := by
  rw [ho] at hq; injection hq with hq; subst hq; exact hi
theorem KB_k {l : List Objt} {e p : List (List Int)} {a z k j : Int} {o : Objt} {s : Sect} (h : KE l e p a z) (ho : l[k.toNat]? = some o) (hs : o.sects[j.toNat]? = some s) : 1 ≤ s.kind ∧ s.kind ≤ 3 ∧ e.length = 3 := by
  have h3 := (KE_8 h 0).2.2.2
  obtain ⟨b, h, rfl, rfl, rfl, rfl⟩ := h
  have := secsOk_get (objB_secs (all_get (lay_all h).1 ho)) hs
  exact ⟨this.1, this.2.1, h3⟩
theorem KB_1 {l : List Objt} {e p : List (List Int)} {a z k j : Int} {o : Objt} {s : Sect} (hk : s.kind < 1) (hs : o.sects[j.toNat]? = some s) (ho : l[k.toNat]? = some o) (h : KE l e p a z) : False := by
  have := KB_k h ho hs; omega
theorem KB_3 {l : List Objt} {e p : List (List Int)} {a z k j : Int} {o : Objt} {s : Sect} (hk : (e.length : Int) < s.kind) (hs : o.sects[j.toNat]? = some s) (ho : l[k.toNat]? = some o) (h : KE l e p a z) : False := by
  have := KB_k h ho hs; omega
theorem KB_r {l : List Objt} {e p : List (List Int)} {a z k j : Int} {o : Objt} {s : Sect} {r : List Int} (hr : p[k.toNat]? = some r) (hs : o.sects[j.toNat]? = some s) (ho : l[k.toNat]? = some o) (h : KE l e p a z) (hk : 0 ≤ k) (hj : 0 ≤ j) : j < r.length := by
  have := (KE_at h hk ho r hr).1
  have := lt_of_some hs; omega
theorem KB_all {l : List Objt} {e p : List (List Int)} {a z k j v : Int} {o : Objt} {s : Sect} {r q : List Int} (hq : e[(s.kind - 1).toNat]? = some q) (hs : o.sects[j.toNat]? = some s) (ho : l[k.toNat]? = some o) (hr : p[k.toNat]? = some r) (hv : r[j.toNat]? = some v) (h : KE l e p a z) (hk : 0 ≤ k) (hj : 0 ≤ j) : q.length = 2 ∧ (∀ y, q[0]? = some y → y ≤ v) ∧ ∀ y, q[1]? = some y → v + secSize s ≤ y := ((KE_at h hk ho r hr).2 j s hj hs v hv).2.2.2.2.2.2 q hq
theorem KB_bd {l : List Objt} {e p : List (List Int)} {a z k j v : Int} {o : Objt} {s : Sect} {r : List Int} (hv : r[j.toNat]? = some v) (hr : p[k.toNat]? = some r) (hs : o.sects[j.toNat]? = some s) (ho : l[k.toNat]? = some o) (h : KE l e p a z) (hk : 0 ≤ k) (hj : 0 ≤ j) : 0 ≤ v ∧ v ≤ 100000 ∧ 0 ≤ secSize s ∧ secSize s ≤ 48 := by
  have := (KE_at h hk ho r hr).2 j s hj hs v hv; omega
theorem KB_b1 {l : List Objt} {e p : List (List Int)} {a z k j v : Int} {o : Objt} {s : Sect} {r : List Int} (hv : r[j.toNat]? = some v) (hr : p[k.toNat]? = some r) (hs : o.sects[j.toNat]? = some s) (ho : l[k.toNat]? = some o) (h : KE l e p a z) (hk : 0 ≤ k) (hj : 0 ≤ j) : -9223372036854775808 ≤ v + secSize s := by
  have := KB_bd hv hr hs ho h hk hj; omega
theorem KB_b2 {l : List Objt} {e p : List (List Int)} {a z k j v : Int} {o : Objt} {s : Sect} {r : List Int} (hv : r[j.toNat]? = some v) (hr : p[k.toNat]? = some r) (hs : o.sects[j.toNat]? = some s) (ho : l[k.toNat]? = some o) (h : KE l e p a z) (hk : 0 ≤ k) (hj : 0 ≤ j) : v + secSize s ≤ 9223372036854775807 := by
  have := KB_bd hv hr hs ho h hk hj; omega
theorem KB_0 {l : List Objt} {e p : List (List Int)} {a z k j v : Int} {o : Objt} {s : Sect} {r q : List Int} (hq : e[(s.kind - 1).toNat]? = some q) (hs : o.sects[j.toNat]? = some s) (ho : l[k.toNat]? = some o) (hr : p[k.toNat]? = some r) (hv : r[j.toNat]? = some v) (h : KE l e p a z) (hk : 0 ≤ k) (hj : 0 ≤ j) : 0 < (q.length : Int) := by
  have := (KB_all hq hs ho hr hv h hk hj).1; omega
theorem KB_01 {l : List Objt} {e p : List (List Int)} {a z k j v : Int} {o : Objt} {s : Sect} {r q : List Int} (hq : e[(s.kind - 1).toNat]? = some q) (hs : o.sects[j.toNat]? = some s) (ho : l[k.toNat]? = some o) (hr : p[k.toNat]? = some r) (hv : r[j.toNat]? = some v) (h : KE l e p a z) (hk : 0 ≤ k) (hj : 0 ≤ j) : 1 < (q.length : Int) := by
  have := (KB_all hq hs ho hr hv h hk hj).1; omega
theorem KB_lo {l : List Objt} {e p : List (List Int)} {a z k j v y : Int} {o : Objt} {s : Sect} {r q : List Int} (hy : v < y) (hv : r[j.toNat]? = some v) (hyq : q[0]? = some y) (hq : e[(s.kind - 1).toNat]? = some q) (hs : o.sects[j.toNat]? = some s) (ho : l[k.toNat]? = some o) (hr : p[k.toNat]? = some r) (h : KE l e p a z) (hk : 0 ≤ k) (hj : 0 ≤ j) : False := by
  have := (KB_all hq hs ho hr hv h hk hj).2.1 y hyq; omega
theorem KB_hi {l : List Objt} {e p : List (List Int)} {a z k j v y : Int} {o : Objt} {s : Sect} {r q : List Int} (hy : y < v + secSize s) (hv : r[j.toNat]? = some v) (hyq : q[1]? = some y) (hq : e[(s.kind - 1).toNat]? = some q) (hs : o.sects[j.toNat]? = some s) (ho : l[k.toNat]? = some o) (hr : p[k.toNat]? = some r) (h : KE l e p a z) (hk : 0 ≤ k) (hj : 0 ≤ j) : False := by
  have := (KB_all hq hs ho hr hv h hk hj).2.2 y hyq; omega
theorem KB_s1 {l : List Objt} {k j : Int} {o : Objt} {s : Sect} (hs : o.sects[j.toNat]? = some s) (ho : l[k.toNat]? = some o) (hj : 0 ≤ j) : j + 1 ≤ (sectsAt l k).length := by
  rw [sectsAt_eq ho]; have := lt_of_some hs; omega
theorem KB_w {l : List Objt} {e p : List (List Int)} {a z k : Int} (h : KE l e p a z) (hk : k < l.length) : k + 1 ≤ 9223372036854775807 := by
  obtain ⟨b, h, _⟩ := h
  have := (lay_all h).2.1; omega
theorem KB_z {l : List Objt} {e p : List (List Int)} {a z : Int} (h : KE l e p a z) : z = a := (KE_8 h 0).2.1.symm
theorem KB_e {l : List Objt} {e p : List (List Int)} {a z : Int} (hn : ¬ (e.length : Int) = 3) (h : KE l e p a z) : False := by have := (KE_8 h 0).2.2.2; omega
def C_laws_FnKindEnds : Con := { ps := [.ro (.list .u)], out := fun x => let c : List (Int) := x.1; vc .bool true, det := true }
abbrev L_laws_FnKindEnds : List (Nat × Con) := [(27, C_spec_DrawKindEnds), (28, C_impl_KindEnds), (29, C_spec_KindEnds), (18, C_laws_alive), (25, C_laws_sameInts), (23, C_impl_PlaceSections), (26, C_impl_SectionSize)]
def G_laws_FnKindEnds : Cfg := GK L_laws_FnKindEnds
def an_laws_FnKindEnds : PTL C_laws_FnKindEnds.ps → Nat → Option Ann := fun x kk_ => let c : List (Int) := x.1; if kk_ = 12 then some (.all (List Objt) fun l => .all (Int) fun b => .all (Int) fun k => .all (Int) fun a => .giv (layOk l b = true ∧ 0 ≤ k ∧ k ≤ 3 ∧ a = atK l b k.toNat) (.mk [(3, al (.st .obj) l), (4, ai b), (8, ai k), (7, ai a), (5, al (.list .i) (layout l b).ends), (6, al (.list .i) (layout l b).ends)] [] ((3 - k).toNat))) else if kk_ = 19 then some (.all (List Objt) fun l => .all (Int) fun k => .all (List (List Int)) fun e => .all (List (List Int)) fun p => .all (Int) fun a => .all (Int) fun z => .giv (KE l e p a z ∧ 0 ≤ k ∧ k ≤ l.length) (.mk [(3, al (.st .obj) l), (12, ai k), (7, ai a), (5, al (.list .i) e), (9, al (.list .i) p), (10, ai z)] [] ((l.length - k.toNat)))) else if kk_ = 2022 then some (.all (List Objt) fun l => .all (Int) fun k => .all (Int) fun j => .all (List (List Int)) fun e => .all (List (List Int)) fun p => .all (Int) fun a => .all (Int) fun z => .giv (KE l e p a z ∧ 0 ≤ k ∧ k < l.length ∧ (sectsAt l k).length ≤ 8 ∧ 0 ≤ j ∧ j ≤ (sectsAt l k).length) (.mk [(3, al (.st .obj) l), (12, ai k), (13, ai j), (7, ai a), (5, al (.list .i) e), (9, al (.list .i) p), (10, ai z)] [] ((l.length - k.toNat) * 1000 + (100 - j).toNat))) else none
theorem vc_laws_FnKindEnds (c : List (Int)) : (KP Try.f6 G_laws_FnKindEnds C_laws_FnKindEnds an_laws_FnKindEnds (c, ())) = (c.length ≤ 9223372036854775807 →
 (decide (1048576 < LN c) = true →
 true = true ∧ True) ∧ (decide (1048576 < LN c) = false →
 (∀ (a : List Objt), (∀ (b : Int), a.length ≤ 5 ∧ objsA a = true ∧ (- (8 : Int)) ≤ b ∧ b ≤ 4104 →
 LN a + @sumI Objt szOb a ≤ 1048576 ∧ ((layout a b).ends.length ≤ 9223372036854775807 →
 (layout a b).ends.length ≤ 9223372036854775807 →
 (decide (LN (layout a b).ends ≠ LN (layout a b).ends) = true →
 false = true ∧ True) ∧ (decide (LN (layout a b).ends ≠ LN (layout a b).ends) = false →
 (layout a b).ends.length ≤ 9223372036854775807 →
 (decide (LN (layout a b).ends = 0) = true →
 true = true ∧ True) ∧ (decide (LN (layout a b).ends = 0) = false →
 (∃ (d : List Objt), (∃ (e : Int), (∃ (f : Int), (∃ (g : Int), a = d ∧ b = e ∧ 0 = f ∧ b = g ∧ (layout a b).ends = (layout d e).ends ∧ (layout a b).ends = (layout d e).ends ∧ (layOk d e = true ∧ 0 ≤ f ∧ f ≤ 3 ∧ g = atK d e f.toNat) ∧ True)))) ∧ (∀ (h : List Objt), (∀ (i : Int), (∀ (j : Int), (∀ (k : Int), layOk h i = true ∧ 0 ≤ j ∧ j ≤ 3 ∧ k = atK h i j.toNat →
 (layout h i).ends.length ≤ 9223372036854775807 →
 (decide (j < LN (layout h i).ends) = true →
 (0 ≤ j ∧ j < LN (layout h i).ends) ∧ (∀ (l : List Int), (layout h i).ends[j.toNat]? = some l →
 Ok (Ty.list (Ty.int IntKind.i64)) l →
 (0 ≤ j ∧ j < LN (layout h i).ends) ∧ (∀ (m : List Int), (layout h i).ends[j.toNat]? = some m →
 Ok (Ty.list (Ty.int IntKind.i64)) m →
 (Bool.not (decide (l = m)) = true →
 false = true ∧ True) ∧ (Bool.not (decide (l = m)) = false →
 (0 ≤ j ∧ j < LN (layout h i).ends) ∧ (∀ (n : List Int), (layout h i).ends[j.toNat]? = some n →
 Ok (Ty.list (Ty.int IntKind.i64)) n →
 n.length ≤ 9223372036854775807 →
 (decide (LN n ≠ 2) = true →
 false = true ∧ True) ∧ (decide (LN n ≠ 2) = false →
 (0 ≤ j ∧ j < LN (layout h i).ends) ∧ (∀ (o : List Int), (layout h i).ends[j.toNat]? = some o →
 Ok (Ty.list (Ty.int IntKind.i64)) o →
 ((0 : Int) ≤ (0 : Int) ∧ 0 < LN o) ∧ (∀ (p : Int), o[(0 : Nat)]? = some p →
 Ok (Ty.int IntKind.i64) p →
 (decide (p < k) = true →
 false = true ∧ True) ∧ (decide (p < k) = false →
 (0 ≤ j ∧ j < LN (layout h i).ends) ∧ (∀ (q : List Int), (layout h i).ends[j.toNat]? = some q →
 Ok (Ty.list (Ty.int IntKind.i64)) q →
 ((0 : Int) ≤ (1 : Int) ∧ 1 < LN q) ∧ (∀ (r : Int), q[(1 : Nat)]? = some r →
 Ok (Ty.int IntKind.i64) r →
 (0 ≤ j ∧ j < LN (layout h i).ends) ∧ (∀ (s : List Int), (layout h i).ends[j.toNat]? = some s →
 Ok (Ty.list (Ty.int IntKind.i64)) s →
 ((0 : Int) ≤ (0 : Int) ∧ 0 < LN s) ∧ (∀ (t : Int), s[(0 : Nat)]? = some t →
 Ok (Ty.int IntKind.i64) t →
 (decide (r < t) = true →
 false = true ∧ True) ∧ (decide (r < t) = false →
 (0 ≤ j ∧ j < LN (layout h i).ends) ∧ (∀ (u : List Int), (layout h i).ends[j.toNat]? = some u →
 Ok (Ty.list (Ty.int IntKind.i64)) u →
 ((0 : Int) ≤ (0 : Int) ∧ 0 < LN u) ∧ (∀ (v : Int), u[(0 : Nat)]? = some v →
 Ok (Ty.int IntKind.i64) v →
 (0 ≤ v ∧ (0 : Int) < (8 : Int)) ∧ (decide (v % 8 ≠ 0) = true →
 false = true ∧ True) ∧ (decide (v % 8 ≠ 0) = false →
 (0 ≤ j ∧ j < LN (layout h i).ends) ∧ (∀ (w : List Int), (layout h i).ends[j.toNat]? = some w →
 Ok (Ty.list (Ty.int IntKind.i64)) w →
 ((0 : Int) ≤ (1 : Int) ∧ 1 < LN w) ∧ (∀ (x : Int), w[(1 : Nat)]? = some x →
 Ok (Ty.int IntKind.i64) x →
 i64 (j + 1) ∧ (∃ (y : List Objt), (∃ (z : Int), (∃ (A : Int), (∃ (B : Int), h = y ∧ i = z ∧ j + 1 = A ∧ x = B ∧ (layout h i).ends = (layout y z).ends ∧ (layout h i).ends = (layout y z).ends ∧ (layOk y z = true ∧ 0 ≤ A ∧ A ≤ 3 ∧ B = atK y z A.toNat) ∧ (3 - A).toNat < (3 - j).toNat))))))))))))))))))))))) ∧ (decide (j < LN (layout h i).ends) = false →
 (∃ (C : List Objt), (∃ (D : Int), (∃ (E : List (List Int)), (∃ (F : List (List Int)), (∃ (G : Int), (∃ (H : Int), h = C ∧ 0 = D ∧ k = G ∧ (layout h i).ends = E ∧ (layout h i).places = F ∧ endPl h i = H ∧ (KE C E F G H ∧ 0 ≤ D ∧ D ≤ LN C) ∧ True)))))) ∧ (∀ (I : List Objt), (∀ (J : Int), (∀ (K : List (List Int)), (∀ (L : List (List Int)), (∀ (M : Int), (∀ (N : Int), KE I K L M N ∧ 0 ≤ J ∧ J ≤ LN I →
 L.length ≤ 9223372036854775807 →
 (decide (J < LN L) = true →
 I.length ≤ 9223372036854775807 →
 (decide (J < LN I) = true →
 (∃ (O : List Objt), (∃ (P : Int), (∃ (Q : Int), (∃ (R : List (List Int)), (∃ (S : List (List Int)), (∃ (T : Int), (∃ (U : Int), I = O ∧ J = P ∧ 0 = Q ∧ M = T ∧ K = R ∧ L = S ∧ N = U ∧ (KE O R S T U ∧ 0 ≤ P ∧ P < LN O ∧ (sectsAt O P).length ≤ 8 ∧ 0 ≤ Q ∧ Q ≤ LN (sectsAt O P)) ∧ (∀ (V : List Objt), (∀ (W : Int), (∀ (X : Int), (∀ (Y : List (List Int)), (∀ (Z : List (List Int)), (∀ (aa : Int), (∀ (ab : Int), KE V Y Z aa ab ∧ 0 ≤ W ∧ W < LN V ∧ (sectsAt V W).length ≤ 8 ∧ 0 ≤ X ∧ X ≤ LN (sectsAt V W) →
 (V.length - W.toNat) * 1000 + (100 - X).toNat ≤ (O.length - P.toNat) * 1000 + (100 - Q).toNat →
 (0 ≤ W ∧ W < LN Z) ∧ (∀ (ac : List Int), Z[W.toNat]? = some ac →
 Ok (Ty.list (Ty.int IntKind.i64)) ac →
 ac.length ≤ 9223372036854775807 →
 (decide (X < LN ac) = true →
 (0 ≤ W ∧ W < LN V) ∧ (∀ (ad : Objt), V[W.toNat]? = some ad →
 Ok (Ty.st SN.obj) ad →
 ad.sects.length ≤ 9223372036854775807 →
 (decide (X < LN ad.sects) = true →
 (0 ≤ W ∧ W < LN V) ∧ (∀ (ae : Objt), V[W.toNat]? = some ae →
 Ok (Ty.st SN.obj) ae →
 (0 ≤ X ∧ X < LN ae.sects) ∧ (∀ (af : Sect), ae.sects[X.toNat]? = some af →
 Ok (Ty.st SN.sect) af →
 (decide (af.kind < 1) = true →
 false = true ∧ True) ∧ (decide (af.kind < 1) = false →
 Y.length ≤ 9223372036854775807 →
 (decide (LN Y < af.kind) = true →
 false = true ∧ True) ∧ (decide (LN Y < af.kind) = false →
 (0 ≤ W ∧ W < LN Z) ∧ (∀ (ag : List Int), Z[W.toNat]? = some ag →
 Ok (Ty.list (Ty.int IntKind.i64)) ag →
 (0 ≤ X ∧ X < LN ag) ∧ (∀ (ah : Int), ag[X.toNat]? = some ah →
 Ok (Ty.int IntKind.i64) ah →
 i64 (af.kind - 1) ∧ (0 ≤ af.kind - 1 ∧ af.kind - 1 < LN Y) ∧ (∀ (ai : List Int), Y[(af.kind - 1).toNat]? = some ai →
 Ok (Ty.list (Ty.int IntKind.i64)) ai →
 ((0 : Int) ≤ (0 : Int) ∧ 0 < LN ai) ∧ (∀ (aj : Int), ai[(0 : Nat)]? = some aj →
 Ok (Ty.int IntKind.i64) aj →
 (decide (ah < aj) = true →
 false = true ∧ True) ∧ (decide (ah < aj) = false →
 (0 ≤ W ∧ W < LN Z) ∧ (∀ (ak : List Int), Z[W.toNat]? = some ak →
 Ok (Ty.list (Ty.int IntKind.i64)) ak →
 (0 ≤ X ∧ X < LN ak) ∧ (∀ (al : Int), ak[X.toNat]? = some al →
 Ok (Ty.int IntKind.i64) al →
 i64 (al + secSize af) ∧ i64 (af.kind - 1) ∧ (0 ≤ af.kind - 1 ∧ af.kind - 1 < LN Y) ∧ (∀ (am : List Int), Y[(af.kind - 1).toNat]? = some am →
 Ok (Ty.list (Ty.int IntKind.i64)) am →
 ((0 : Int) ≤ (1 : Int) ∧ 1 < LN am) ∧ (∀ (an : Int), am[(1 : Nat)]? = some an →
 Ok (Ty.int IntKind.i64) an →
 (decide (an < al + secSize af) = true →
 false = true ∧ True) ∧ (decide (an < al + secSize af) = false →
 i64 (X + 1) ∧ (∃ (ao : List Objt), (∃ (ap : Int), (∃ (aq : Int), (∃ (ar : List (List Int)), (∃ (au : List (List Int)), (∃ (av : Int), (∃ (aw : Int), V = ao ∧ W = ap ∧ X + 1 = aq ∧ aa = av ∧ Y = ar ∧ Z = au ∧ ab = aw ∧ (KE ao ar au av aw ∧ 0 ≤ ap ∧ ap < LN ao ∧ (sectsAt ao ap).length ≤ 8 ∧ 0 ≤ aq ∧ aq ≤ LN (sectsAt ao ap)) ∧ (ao.length - ap.toNat) * 1000 + (100 - aq).toNat < (V.length - W.toNat) * 1000 + (100 - X).toNat)))))))))))))))))))))) ∧ (decide (X < LN ad.sects) = false →
 i64 (W + 1) ∧ (∃ (ax : List Objt), (∃ (ay : Int), (∃ (az : List (List Int)), (∃ (aA : List (List Int)), (∃ (aB : Int), (∃ (aC : Int), V = ax ∧ W + 1 = ay ∧ aa = aB ∧ Y = az ∧ Z = aA ∧ ab = aC ∧ (KE ax az aA aB aC ∧ 0 ≤ ay ∧ ay ≤ LN ax) ∧ ax.length - ay.toNat < I.length - J.toNat))))))))) ∧ (decide (X < LN ac) = false →
 i64 (W + 1) ∧ (∃ (aD : List Objt), (∃ (aE : Int), (∃ (aF : List (List Int)), (∃ (aG : List (List Int)), (∃ (aH : Int), (∃ (aI : Int), V = aD ∧ W + 1 = aE ∧ aa = aH ∧ Y = aF ∧ Z = aG ∧ ab = aI ∧ (KE aD aF aG aH aI ∧ 0 ≤ aE ∧ aE ≤ LN aD) ∧ aD.length - aE.toNat < I.length - J.toNat))))))))))))))))))))))) ∧ (decide (J < LN I) = false →
 K.length ≤ 9223372036854775807 →
 (decide (LN K = 3) = true →
 decide (N = M) = true ∧ True) ∧ (decide (LN K = 3) = false →
 false = true ∧ True))) ∧ (decide (J < LN L) = false →
 K.length ≤ 9223372036854775807 →
 (decide (LN K = 3) = true →
 decide (N = M) = true ∧ True) ∧ (decide (LN K = 3) = false →
 false = true ∧ True)))))))))))))))))))) := by kernel_rfl
theorem det_laws_FnKindEnds : C_laws_FnKindEnds.det = true → ∀ x, (C_laws_FnKindEnds.out x).Det := fun _ _ => Det.vc'
theorem ok_laws_FnKindEnds : ConOK Try.prog 6 C_laws_FnKindEnds := by
  refine con_q (l := L_laws_FnKindEnds) ⟨⟨ok_spec_DrawKindEnds, det_spec_DrawKindEnds⟩, ⟨⟨ok_impl_KindEnds, det_impl_KindEnds⟩, ⟨⟨ok_spec_KindEnds, det_spec_KindEnds⟩, ⟨⟨ok_laws_alive, det_laws_alive⟩, ⟨⟨ok_laws_sameInts, det_laws_sameInts⟩, ⟨⟨ok_impl_PlaceSections, det_impl_PlaceSections⟩, ⟨⟨ok_impl_SectionSize, det_impl_SectionSize⟩, trivial⟩⟩⟩⟩⟩⟩⟩ Try.func6 rfl (by decide) (by kernel_rfl) rfl an_laws_FnKindEnds fun x ho hx => ?_
  obtain ⟨c, ⟨⟩⟩ := x
  refine Keeps.of (vc_laws_FnKindEnds c) ?_
  revert c ho hx
  show ∀ (c : List (Int)), _
  intro c ho hx
  dsimp only [C_laws_FnKindEnds, okPTL, okPT, Ok, Ty.cells, SN.cells, OkL, OkC, okI, ci, cb, cs, cl] at ho
  dsimp only [C_laws_FnKindEnds, vc, v1, decB, SR.pre] at hx
  (try delta i64 LN); simp only [DRt, ex_sect2]; (repeat' first | apply And.intro | (intro x hq _; replace hq := List.mem_of_getElem? hq; simp only [List.mem_cons, List.not_mem_nil, or_false] at hq) | intro _); all_goals (try omega)
  all_goals first
    | omega
    | exact atK0
    | (have := objsA_sz (by assumption) (by omega); omega)
    | exact (KE_8 (by assumption) _).1
    | exact LK_ne (by assumption) (by assumption) (by assumption)
    | exact KA_2 (by assumption) (by assumption) (by assumption) (by assumption)
    | exact KA_0 (by assumption) (by assumption) (by assumption)
    | exact KA_1 (by assumption) (by assumption) (by assumption)
    | exact KA_lo (by assumption) (by assumption) (by assumption) (by assumption) (by assumption) (by assumption)
    | exact KA_od (by assumption) (by assumption) (by assumption) (by assumption) (by assumption) (by assumption) (by assumption)
    | exact KA_nn (by assumption) (by assumption) (by assumption) (by assumption)
    | exact KA_8 (by assumption) (by assumption) (by assumption) (by assumption) (by assumption)
    | exact KA_j (by assumption) (by assumption) (by assumption)
    | exact KA_d (by assumption) (by assumption) (by assumption)
    | exact KA_at (by assumption) (by assumption) (by assumption) (by assumption)
    | exact KA_ok (by assumption)
    | exact KA_KE (by assumption) (by assumption) (by assumption) (by assumption)
    | exact KB_pl (by assumption) (by assumption)
    | exact KB_q (by assumption) (by assumption) (by assumption)
    | exact KB_1 (by assumption) (by assumption) (by assumption) (by assumption)
    | exact KB_3 (by assumption) (by assumption) (by assumption) (by assumption)
    | exact KB_r (by assumption) (by assumption) (by assumption) (by assumption) (by assumption) (by assumption)
    | exact KB_0 (by assumption) (by assumption) (by assumption) (by assumption) (by assumption) (by assumption) (by assumption) (by assumption)
    | exact KB_01 (by assumption) (by assumption) (by assumption) (by assumption) (by assumption) (by assumption) (by assumption) (by assumption)
    | exact KB_b1 (by assumption) (by assumption) (by assumption) (by assumption) (by assumption) (by assumption) (by assumption)
    | exact KB_b2 (by assumption) (by assumption) (by assumption) (by assumption) (by assumption) (by assumption) (by assumption)
    | exact KB_lo (by assumption) (by assumption) (by assumption) (by assumption) (by assumption) (by assumption) (by assumption) (by assumption) (by assumption) (by assumption)
    | exact KB_hi (by assumption) (by assumption) (by assumption) (by assumption) (by assumption) (by assumption) (by assumption) (by assumption) (by assumption) (by assumption)
    | exact KB_s1 (by assumption) (by assumption) (by assumption)
    | exact KB_w (by assumption) (by assumption)
    | exact KB_z (by assumption)
    | exact KB_e (by assumption) (by assumption)
    | skip

theorem rd_u : Reads Try.prog 5 [.u] := reads_u8 Try.underlying5
theorem rd_uL : Reads Try.prog 22 [(.list .u)] := reads_slice (t' := .u) Try.underlying22 (by kernel_rfl) (by decide) rd_u
set_option maxRecDepth 100000 in
theorem lifted_FnKindEnds (os : Os) (started : os.Started) (H : Type) (enc : TypeId × Value → H) :
    ReturnsInHanded {} Try.checked os 6 .any (Rows.fnKindEndsSpec.pre6 enc Try.prog Try.f6 Rows.fnKindEndsRow.domain false) (Rows.fnKindEndsSpec.post enc Try.prog Try.f6 false true false false) := by
  refine returnsInHanded_of_change (C := Try.checked) head_own started (by kernel_rfl) Try.func6
    (ChangeSpec.witness6 (enc := enc) (C := Try.checked) false ⟨#[], #[.slice none 0 0], []⟩ 8 (by kernel_rfl) (by kernel_rfl) (by kernel_rfl) (by kernel_rfl)) ?_
  intro W base args ds gs before hval0 hW _ _
  have hval : ∀ (j : Nat) t v, Try.f6.params[j]? = some t → args[j]? = some v → Value.okWide Try.prog W .any base t v := hval0
  have hW' := hW
  obtain ⟨p, q, hA0, hV, rfl, hfz, hnd⟩ := hW
  have hA : DataW.TrodAll enc Try.prog W 0 (fun _ => true) true Try.f6.params.toList args.toList ds p := hA0
  rw [Try.params6] at hA hval
  obtain ⟨v0, vs0, d0, ds0, p0, q0, hargs, rfl, rfl, h0, r0⟩ := trodAll_cons hA
  obtain ⟨rfl, rfl, rfl⟩ := trodAll_nil r0
  obtain rfl : args = #[v0] := by cases args; simp_all
  obtain ⟨rfl, rfl⟩ := trodVars_none hV
  have k0 := h0
  obtain ⟨x0, g0⟩ := open_slice1 Try.underlying22 rd_uL (hval 0 22 v0 rfl rfl) h0
  clear hA0 hval0 hval
  refine (law_calls ok_laws_FnKindEnds (x0, ()) rfl rfl (W := W) (vals := [v0]) ⟨g0, trivial⟩).mono fun e W' ⟨he, bel⟩ => ?_
  subst he
  exact ⟨_, rfl, _, _, _, [], _, [], hW', trodAll_mk1 (shut_bool Try.underlying4 _), (trodAll_cons_mk (Below.trod head_laid (by kernel_rfl) (of_decide_eq_true (by kernel_rfl)) k0 bel (trod_lt_ k0)) trodAll_mk0), rfl, bel.frame _, fun h => by cases h⟩

theorem over_FnKindEnds : Rows.fnKindEndsRow.holds Try.pinned (OpenSpec.ofChange Rows.fnKindEndsSpec) :=
  OpenClaim.holds_of_wide 6 Try.f6 rfl rfl rfl rfl rfl rfl rfl ⟨rfl, rfl, rfl, rfl, rfl⟩ rfl rfl rfl rfl rfl (by kernel_rfl) Try.func6 (joined_of head_laid head_rowed head_stops head_stopk head_heard head_enter (show (Rows.fnKindEndsRow.lifted == Try.prog.liftsFinal) = true by rw [head_final]; rfl) (show (Try.prog.make == some Rows.fnKindEndsRow.make) = true by rw [head_make]; rfl) (by kernel_rfl))
    (of_decide_eq_true (by kernel_rfl)) (by unfold Func.isWrapper; first | (rw [if_pos (by decide +kernel)]; kernel_rfl) | (rw [if_neg (by decide +kernel)]; exact ⟨rfl, rfl⟩))
    (fun os started H enc _ => lifted_FnKindEnds os started H enc)

theorem proved_FnKindEnds : Rows.FnKindEndsSaid := over_FnKindEnds
#print axioms proved_FnKindEnds

end Go.Proofs.Ytignicccfjdiiaa
