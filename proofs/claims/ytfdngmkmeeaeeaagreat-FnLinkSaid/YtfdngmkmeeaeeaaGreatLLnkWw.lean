/- The law on images: their bytes are those of the sections, but for fixups. -/
import Derived.Test.YtfdngmkmeeaeeaaGreatLnkWw
import Derived.Test.YtfdngmkmeeaeeaaGreatDrawLw
import Derived.Test.YtfdngmkmeeaeeaaGreatSamea
import Derived.Test.YtfdngmkmeeaeeaaGreatLinkw
import Derived.Test.YtfdngmkmeeaeeaaGreatImgw
import Derived.Test.YtfdngmkmeeaeeaaGreatHeada
set_option linter.unusedVariables false
set_option linter.unusedSimpArgs false
set_option maxRecDepth 200000
set_option maxHeartbeats 4000000
namespace Go.Proofs.YtfdngmkmeeaeeaaGreat
open Go Go.RowKit Go.ChangeShapes Go.WideShapes Go.Deep


theorem NE_selfL {α : Type} {x : α} (h : x ≠ x) : False := h rfl
theorem NT_L (h : ¬ True) : False := h trivial
theorem FL_lay {l : List Objt} {b : Int} (h : (link l b).2 = 0) : layOk l b = true := (img_ok h).2.2.2.1
theorem FL_1 {l : List Objt} {b : Int} (hn : ((namesM l).length : Int) ≤ 0) (h : ¬ (link l b).snd ≠ 2) : False := by
 refine h fun e => ?_
 unfold link at e
 cases hl : layOk l b with
 | false => simp [hl] at e
 | true =>
  have hm : nMs l = [] := by
   rw [← (K_T hl).2]; exact List.eq_nil_of_length_eq_zero (by omega)
  by_cases h1 : nTw l = []
  ·cases hx : lnkB l b <;> simp [hl, h1, hm, hx] at e
  ·simp [hl, h1] at e
theorem FL_2 {l : List Objt} {b : Int} (hn : ((namesT l).length : Int) ≤ 0) (h : ¬ (link l b).snd ≠ 1) : False := by
 refine h fun e => ?_
 unfold link at e
 cases hl : layOk l b with
 | false => simp [hl] at e
 | true =>
  have hm : nTw l = [] := by
   rw [← (K_T hl).1]; exact List.eq_nil_of_length_eq_zero (by omega)
  by_cases h1 : nMs l = []
  ·cases hx : lnkB l b <;> simp [hl, h1, hm, hx] at e
  ·simp [hl, h1, hm] at e
theorem FL_3 {l : List Objt} {b : Int} (h : ¬ (decide ((link l b).snd = -1)) = !layOk l b) : False := by
 refine h ?_
 unfold link
 cases hl : layOk l b with
 | false => simp
 | true =>
  by_cases h1 : nTw l = []
  ·by_cases h2 : nMs l = []
   ·cases hx : lnkB l b <;> simp [h1, h2]
   ·simp [h1, h2]
  ·simp [h1]
theorem FL_4 {l : List Objt} {b : Int} (hn : ¬ ((link l b).fst.bytes.length : Int) = 0) (h : (link l b).snd ≠ 0) : False := hn (by rw [link_bad h]; rfl)
theorem FL_8 {l : List Objt} {b k : Int} (h : (link l b).2 = 0) : (sectsAt l k).length ≤ 8 := sects8 (FL_lay h)
theorem FL_pl {l : List Objt} {b k : Int} (h : (link l b).2 = 0) (hk : k < l.length) : k < ((layout l b).places.length : Int) := by
 have := (lnk_pll ⟨FL_lay h, by obtain ⟨x, _, h1, _⟩ := link_good h; exact h1, by obtain ⟨x, _, _, h1, _⟩ := link_good h; exact h1⟩ : (layout l b).places.length = l.length)
 omega
theorem FL_48 {l : List Objt} {b k j : Int} {o : Objt} {s : Sect} (hs : o.sects[j.toNat]? = some s) (ho : l[k.toNat]? = some o) (h : (link l b).2 = 0) : s.bytes.length ≤ 48 := by
 have := (secsOk_get (objB_secs (all_get (lay_all (FL_lay h)).1 ho)) hs).2.2.2.2; omega
theorem FL_j {l : List Objt} {k j : Int} {s : Sect} (hs : (sectsAt l k)[j.toNat]? = some s) (h8 : (sectsAt l k).length ≤ 8) : j + 1 ≤ 9223372036854775807 := by have := lt_of_some hs; omega
theorem FL_j1 {l : List Objt} {k j : Int} {s : Sect} (hs : (sectsAt l k)[j.toNat]? = some s) (hj : 0 ≤ j) : j + 1 ≤ ((sectsAt l k).length : Int) := by have := lt_of_some hs; omega
theorem FL_k {l : List Objt} {b k : Int} (h : (link l b).2 = 0) (hk : k < l.length) : k + 1 ≤ 9223372036854775807 := by have := (lay_all (FL_lay h)).2.1; omega
theorem FL_e1 {l : List Objt} {b : Int} (h : (link l b).2 = 0) : -9223372036854775808 ≤ endPl l b - b := by have := img_ok h; omega
theorem FL_e2 {l : List Objt} {b : Int} (h : (link l b).2 = 0) : endPl l b - b ≤ 9223372036854775807 := by have := img_ok h; have := this.1.2; omega
theorem FL_b1 {l : List Objt} {b : Int} (h : (link l b).2 = 0) : 0 ≤ (link l b).fst.base := (img_ok h).1.1.1
theorem FL_b2 {l : List Objt} {b : Int} (h : (link l b).2 = 0) : (link l b).fst.base ≤ 4096 := (img_ok h).1.1.2.1
theorem FL_b3 {l : List Objt} {b : Int} (h : (link l b).2 = 0) : (link l b).fst.base % 8 = 0 := (img_ok h).1.1.2.2
theorem FL_b4 {l : List Objt} {b : Int} (h : (link l b).2 = 0) : ((link l b).fst.bytes.length : Int) ≤ 2000 := (img_ok h).1.2
theorem FL_b5 {l : List Objt} {b : Int} (hn : ¬ ((link l b).fst.bytes.length : Int) = endPl l b - b) (h : (link l b).2 = 0) : False := by have := img_ok h; omega
theorem FL_b6 {l : List Objt} {b : Int} (hn : ¬ (link l b).fst.base = b) (h : (link l b).2 = 0) : False := hn (img_ok h).2.1
theorem FL_6 {l : List Objt} {b k j : Int} {s : Sect} (hs : (sectsAt l k)[j.toNat]? = some s) (h : (link l b).2 = 0) (hk : 0 ≤ k) (hq : k < l.length) : s.fixups.length ≤ 6 := by
 have ho := List.getElem?_eq_getElem (l := l) (i := k.toNat) (by omega)
 rw [sectsAt_eq ho] at hs
 obtain ⟨x, hl, h1, h2, _⟩ := link_good h
 exact (K_b48 ⟨hl, h1, h2⟩ ho hs).2
theorem FL_r {l : List Objt} {b k j : Int} {s : Sect} {r : List Int} (hr : (layout l b).places[k.toNat]? = some r) (hs : (sectsAt l k)[j.toNat]? = some s) (h : (link l b).2 = 0) (hk : 0 ≤ k) (hq : k < l.length) (hj : 0 ≤ j) : j < (r.length : Int) := by
 have ho := List.getElem?_eq_getElem (l := l) (i := k.toNat) (by omega)
 rw [sectsAt_eq ho] at hs
 rw [layout_yes (FL_lay h)] at hr
 have := (places_row hr ho).1
 have := lt_of_some hs; omega
theorem FL_v {l : List Objt} {b k j v : Int} {s : Sect} {r : List Int} (hv : r[j.toNat]? = some v) (hr : (layout l b).places[k.toNat]? = some r) (hs : (sectsAt l k)[j.toNat]? = some s) (h : (link l b).2 = 0) (hk : 0 ≤ k) (hq : k < l.length) : 0 ≤ v ∧ v ≤ 10000 := by
 have ho := List.getElem?_eq_getElem (l := l) (i := k.toNat) (by omega)
 rw [sectsAt_eq ho] at hs
 rw [layout_yes (FL_lay h)] at hr
 have e3 := ((places_row hr ho).2 _ _ hv).1
 have hp := plc_range (FL_lay h) ho hs
 omega
theorem FL_v1 {l : List Objt} {b k j v t : Int} {s : Sect} {r : List Int} (hv : r[j.toNat]? = some v) (hr : (layout l b).places[k.toNat]? = some r) (hs : (sectsAt l k)[j.toNat]? = some s) (h : (link l b).2 = 0) (hk : 0 ≤ k) (hq : k < l.length) (h0 : 0 ≤ t) (ht : t < s.bytes.length) (h48 : s.bytes.length ≤ 48) : -9223372036854775808 ≤ v + t := by have := FL_v hv hr hs h hk hq; omega
theorem FL_v2 {l : List Objt} {b k j v t : Int} {s : Sect} {r : List Int} (hv : r[j.toNat]? = some v) (hr : (layout l b).places[k.toNat]? = some r) (hs : (sectsAt l k)[j.toNat]? = some s) (h : (link l b).2 = 0) (hk : 0 ≤ k) (hq : k < l.length) (h0 : 0 ≤ t) (ht : t < s.bytes.length) (h48 : s.bytes.length ≤ 48) : v + t ≤ 9223372036854775807 := by have := FL_v hv hr hs h hk hq; omega
theorem fixB_at {m b : Int} : ∀ {l : List Fixup} {e : Int}, 0 ≤ e → fixB m b e l = true → ∀ f ∈ l, 0 ≤ f.at_ ∧ f.at_ ≤ b - fixWide f.kind := by
 intro l
 induction l with
 | nil => intro e _ _ f hf; cases hf
 | cons g l ih =>
  intro e he h f hf
  simp only [fixB, Bool.and_eq_true, decide_eq_true_eq] at h
  have hw : 0 ≤ fixWide g.kind := by unfold fixWide; split <;> (try split) <;> (try split) <;> omega
  rcases List.mem_cons.1 hf with rfl | hf
  ·omega
  ·exact ih (by omega) h.2 f hf
theorem FW_at {l : List Objt} {b k j n : Int} {s : Sect} {f : Fixup} (hf : s.fixups[n.toNat]? = some f) (hs : (sectsAt l k)[j.toNat]? = some s) (h : (link l b).2 = 0) (hk : 0 ≤ k) (hq : k < l.length) : 0 ≤ f.at_ ∧ f.at_ + fixWide f.kind ≤ 48 := by
 have ho := List.getElem?_eq_getElem (l := l) (i := k.toNat) (by omega)
 rw [sectsAt_eq ho] at hs
 have hb := all_get (lay_all (FL_lay h)).1 ho
 have h48 := FL_48 hs ho h
 simp only [objB, Bool.and_eq_true, List.all_eq_true] at hb
 have := hb.1.2 s (List.mem_of_getElem? hs)
 simp only [secB, Bool.and_eq_true] at this
 have := this.2
 split at this
 ·simp only [decide_eq_true_eq] at this; rw [this.2.2.2] at hf; simp at hf
 ·simp only [Bool.and_eq_true] at this
  have g := fixB_at (Int.le_refl 0) this.2 f (List.mem_of_getElem? hf)
  omega
theorem FW_1 {l : List Objt} {b k j n : Int} {s : Sect} {f g : Fixup} (hf : s.fixups[n.toNat]? = some f) (hg : s.fixups[n.toNat]? = some g) (hs : (sectsAt l k)[j.toNat]? = some s) (h : (link l b).2 = 0) (hk : 0 ≤ k) (hq : k < l.length) : -9223372036854775808 ≤ f.at_ + fixWide g.kind := by
 rw [hf] at hg; injection hg with hg; subst hg
 have := FW_at hf hs h hk hq
 have hw : 0 ≤ fixWide f.kind := by unfold fixWide; split <;> (try split) <;> (try split) <;> omega
 omega
theorem FW_2 {l : List Objt} {b k j n : Int} {s : Sect} {f g : Fixup} (hf : s.fixups[n.toNat]? = some f) (hg : s.fixups[n.toNat]? = some g) (hs : (sectsAt l k)[j.toNat]? = some s) (h : (link l b).2 = 0) (hk : 0 ≤ k) (hq : k < l.length) : f.at_ + fixWide g.kind ≤ 9223372036854775807 := by
 rw [hf] at hg; injection hg with hg; subst hg
 have := FW_at hf hs h hk hq
 omega
theorem FW_3 {s : Sect} {n t : Int} {f : Bool} (h : f = true) (hf : f = flB (s.fixups.take n.toNat) t) (h0 : 0 ≤ n) (hn : n < s.fixups.length) : true = flB (s.fixups.take (n + 1).toNat) t := by
 obtain ⟨x, hx⟩ := some_of_lt h0 hn
 rw [flB_next h0 hx, ← hf, h]; rfl
theorem FW_4 {s : Sect} {n t : Int} {f : Bool} {x y z : Fixup} (hle : z.at_ ≤ t) (hz : s.fixups[n.toNat]? = some z) (hx : s.fixups[n.toNat]? = some x) (hy : s.fixups[n.toNat]? = some y) (h : f = false) (hf : f = flB (s.fixups.take n.toNat) t) (h0 : 0 ≤ n) : decide (t < x.at_ + fixWide y.kind) = flB (s.fixups.take (n + 1).toNat) t := by
 rw [hz] at hx hy; injection hx with hx; injection hy with hy; subst hx; subst hy
 rw [flB_next h0 hz, ← hf, h]; simp [hle]
theorem FW_5 {s : Sect} {n t : Int} {f : Bool} {z : Fixup} (hle : t < z.at_) (hz : s.fixups[n.toNat]? = some z) (h : f = false) (hf : f = flB (s.fixups.take n.toNat) t) (h0 : 0 ≤ n) : false = flB (s.fixups.take (n + 1).toNat) t := by
 rw [flB_next h0 hz, ← hf, h]
 have : ¬ z.at_ ≤ t := by omega
 simp [this]
theorem FW_6 {l : List Objt} {b k j t v y n : Int} {s : Sect} {r : List Int} {f : Bool} (hne : imgByte (link l b).fst (v + t) ≠ y) (hy : s.bytes[t.toNat]? = some y) (hv : r[j.toNat]? = some v) (hr : (layout l b).places[k.toNat]? = some r) (hs : (sectsAt l k)[j.toNat]? = some s) (h : (link l b).2 = 0) (hk : 0 ≤ k) (hq : k < l.length) (h0 : 0 ≤ t) (hn : (s.fixups.length : Int) ≤ n) (hf : f = flB (s.fixups.take n.toNat) t) (hff : f = false) : False := by
 have ho := List.getElem?_eq_getElem (l := l) (i := k.toNat) (by omega)
 rw [sectsAt_eq ho] at hs
 rw [flB_end hn] at hf
 exact hne (img_at hy (by rw [← hf, hff]) hs ho hv hr h h0)
def C_laws_FnLink : Con := { ps := [.ro (.list .u)], out := fun x => let c : List (Int) := x.1; vc .bool true, det := true }
abbrev L_laws_FnLink : List (Nat × Con) := [(43, C_spec_DrawLink), (15, C_impl_Link), (13, C_spec_Link), (39, C_laws_sameImage), (45, C_impl_PlaceSections), (46, C_impl_NamesTwice), (47, C_impl_NamesMissing), (37, C_laws_alive), (48, C_impl_FixupWide), (49, C_impl_ImageByte), (50, C_impl_ImageValid)]
def G_laws_FnLink : Cfg := GK L_laws_FnLink
def an_laws_FnLink : PTL C_laws_FnLink.ps → Nat → Option Ann := fun x kk_ => let c : List (Int) := x.1; if kk_ = 12 then some (.all (List Objt) fun l => .all (Int) fun b => .all (Int) fun k => .giv ((link l b).2 = 0 ∧ 0 ≤ k ∧ k ≤ l.length) (.mk [(3, al (.st .obj) l), (4, ai b), (12, ai k), (9, al (.list .i) (layout l b).places), (10, ai (endPl l b)), (5, aref 31)] [(31, bx (ast .img (link l b).1))] ((l.length - k.toNat)))) else if kk_ = 2015 then some (.all (List Objt) fun l => .all (Int) fun b => .all (Int) fun k => .all (Int) fun j => .giv ((link l b).2 = 0 ∧ 0 ≤ k ∧ k < l.length ∧ (sectsAt l k).length ≤ 8 ∧ 0 ≤ j ∧ j ≤ (sectsAt l k).length) (.mk [(3, al (.st .obj) l), (4, ai b), (12, ai k), (13, ai j), (9, al (.list .i) (layout l b).places), (10, ai (endPl l b)), (5, aref 31)] [(31, bx (ast .img (link l b).1))] ((l.length - k.toNat) * 50000 + (10 - j).toNat * 2000))) else if kk_ = 2019 then some (.all (List Objt) fun l => .all (Int) fun b => .all (Int) fun k => .all (Int) fun j => .all (Int) fun i => .all (Sect) fun s => .giv ((link l b).2 = 0 ∧ 0 ≤ k ∧ k < l.length ∧ (sectsAt l k).length ≤ 8 ∧ 0 ≤ j ∧ (sectsAt l k)[j.toNat]? = some s ∧ 0 ≤ i ∧ i ≤ s.bytes.length ∧ s.bytes.length ≤ 48) (.mk [(3, al (.st .obj) l), (4, ai b), (12, ai k), (13, ai j), (15, ai i), (9, al (.list .i) (layout l b).places), (10, ai (endPl l b)), (5, aref 31), (14, aref 32)] [(31, bx (ast .img (link l b).1)), (32, bx (ast .sect s))] ((l.length - k.toNat) * 50000 + (10 - j).toNat * 2000 + (50 - i).toNat * 20))) else if kk_ = 2023 then some (.all (List Objt) fun l => .all (Int) fun b => .all (Int) fun k => .all (Int) fun j => .all (Int) fun i => .all (Int) fun n => .all (Bool) fun f => .all (Sect) fun s => .giv ((link l b).2 = 0 ∧ f = flB (s.fixups.take n.toNat) i ∧ 0 ≤ k ∧ k < l.length ∧ (sectsAt l k).length ≤ 8 ∧ 0 ≤ j ∧ (sectsAt l k)[j.toNat]? = some s ∧ 0 ≤ i ∧ i < s.bytes.length ∧ s.bytes.length ≤ 48 ∧ s.fixups.length ≤ 6 ∧ 0 ≤ n ∧ n ≤ s.fixups.length) (.mk [(3, al (.st .obj) l), (4, ai b), (12, ai k), (13, ai j), (15, ai i), (17, ai n), (9, al (.list .i) (layout l b).places), (10, ai (endPl l b)), (5, aref 31), (14, aref 32), (16, ab f)] [(31, bx (ast .img (link l b).1)), (32, bx (ast .sect s))] ((l.length - k.toNat) * 50000 + (10 - j).toNat * 2000 + (50 - i).toNat * 20 + (10 - n).toNat))) else none
theorem vc_laws_FnLink (c : List (Int)) : (KP Tryz.f9 G_laws_FnLink C_laws_FnLink an_laws_FnLink (c, ())) = (c.length ≤ 9223372036854775807 →
 (decide (1048576 < LN c) = true →
 true = true ∧ True) ∧ (decide (1048576 < LN c) = false →
 (∀ (a : List Objt), (∀ (b : Int), a.length ≤ 5 ∧ objsA a = true ∧ (- (8 : Int)) ≤ b ∧ b ≤ 4104 →
 LN a + @sumI Objt szOb a ≤ 1048576 ∧ (Bool.not (decide ((link a b).fst = (link a b).fst)) = true →
 false = true ∧ True) ∧ (Bool.not (decide ((link a b).fst = (link a b).fst)) = false →
 (decide ((link a b).snd ≠ (link a b).snd) = true →
 false = true ∧ True) ∧ (decide ((link a b).snd ≠ (link a b).snd) = false →
 (decide ((link a b).snd ≠ 0) = true →
 (link a b).fst.bytes.length ≤ 9223372036854775807 →
 (decide (LN (link a b).fst.bytes = 0) = true →
 (decide (decide ((link a b).snd = (- (1 : Int))) = Bool.not (layOk a b)) = true →
 (decide ((link a b).snd ≠ 1) = true →
 (decide ((link a b).snd ≠ 2) = true →
 true = true ∧ True) ∧ (decide ((link a b).snd ≠ 2) = false →
 (namesM a).length ≤ 9223372036854775807 →
 (decide (0 < LN (namesM a)) = true →
 true = true ∧ True) ∧ (decide (0 < LN (namesM a)) = false →
 false = true ∧ True))) ∧ (decide ((link a b).snd ≠ 1) = false →
 (namesT a).length ≤ 9223372036854775807 →
 (decide (0 < LN (namesT a)) = true →
 (decide ((link a b).snd ≠ 2) = true →
 true = true ∧ True) ∧ (decide ((link a b).snd ≠ 2) = false →
 (namesM a).length ≤ 9223372036854775807 →
 (decide (0 < LN (namesM a)) = true →
 true = true ∧ True) ∧ (decide (0 < LN (namesM a)) = false →
 false = true ∧ True))) ∧ (decide (0 < LN (namesT a)) = false →
 false = true ∧ True))) ∧ (decide (decide ((link a b).snd = (- (1 : Int))) = Bool.not (layOk a b)) = false →
 false = true ∧ True)) ∧ (decide (LN (link a b).fst.bytes = 0) = false →
 false = true ∧ True)) ∧ (decide ((link a b).snd ≠ 0) = false →
 (∃ (d : List Objt), (∃ (e : Int), (∃ (f : Int), a = d ∧ b = e ∧ 0 = f ∧ (layout a b).places = (layout d e).places ∧ endPl a b = endPl d e ∧ (link a b).fst.base = (link d e).fst.base ∧ (link a b).fst.bytes = (link d e).fst.bytes ∧ ((link d e).snd = 0 ∧ 0 ≤ f ∧ f ≤ LN d) ∧ True))) ∧ (∀ (g : List Objt), (∀ (h : Int), (∀ (i : Int), (link g h).snd = 0 ∧ 0 ≤ i ∧ i ≤ LN g →
 (layout g h).places.length ≤ 9223372036854775807 →
 (decide (i < LN (layout g h).places) = true →
 g.length ≤ 9223372036854775807 →
 (decide (i < LN g) = true →
 (∃ (j : List Objt), (∃ (k : Int), (∃ (l : Int), (∃ (m : Int), g = j ∧ h = k ∧ i = l ∧ 0 = m ∧ (layout g h).places = (layout j k).places ∧ endPl g h = endPl j k ∧ (link g h).fst.base = (link j k).fst.base ∧ (link g h).fst.bytes = (link j k).fst.bytes ∧ ((link j k).snd = 0 ∧ 0 ≤ l ∧ l < LN j ∧ (sectsAt j l).length ≤ 8 ∧ 0 ≤ m ∧ m ≤ LN (sectsAt j l)) ∧ (∀ (n : List Objt), (∀ (o : Int), (∀ (p : Int), (∀ (q : Int), (link n o).snd = 0 ∧ 0 ≤ p ∧ p < LN n ∧ (sectsAt n p).length ≤ 8 ∧ 0 ≤ q ∧ q ≤ LN (sectsAt n p) →
 (n.length - p.toNat) * 50000 + (10 - q).toNat * 2000 ≤ (j.length - l.toNat) * 50000 + (10 - m).toNat * 2000 →
 (0 ≤ p ∧ p < LN (layout n o).places) ∧ (∀ (r : List Int), (layout n o).places[p.toNat]? = some r →
 Ok (Ty.list (Ty.int IntKind.i64)) r →
 r.length ≤ 9223372036854775807 →
 (decide (q < LN r) = true →
 (0 ≤ p ∧ p < LN n) ∧ (∀ (s : Objt), n[p.toNat]? = some s →
 Ok (Ty.st SN.obj) s →
 s.sects.length ≤ 9223372036854775807 →
 (decide (q < LN s.sects) = true →
 (0 ≤ p ∧ p < LN n) ∧ (∀ (t : Objt), n[p.toNat]? = some t →
 Ok (Ty.st SN.obj) t →
 (0 ≤ q ∧ q < LN t.sects) ∧ (∀ (u : Sect), t.sects[q.toNat]? = some u →
 Ok (Ty.st SN.sect) u →
 (∃ (v : List Objt), (∃ (w : Int), (∃ (x : Int), (∃ (y : Int), (∃ (z : Int), (∃ (A : Sect), n = v ∧ o = w ∧ p = x ∧ q = y ∧ 0 = z ∧ (layout n o).places = (layout v w).places ∧ endPl n o = endPl v w ∧ (link n o).fst.base = (link v w).fst.base ∧ (link n o).fst.bytes = (link v w).fst.bytes ∧ u.name = A.name ∧ u.kind = A.kind ∧ u.align = A.align ∧ u.bytes = A.bytes ∧ u.size = A.size ∧ u.fixups = A.fixups ∧ ((link v w).snd = 0 ∧ 0 ≤ x ∧ x < LN v ∧ (sectsAt v x).length ≤ 8 ∧ 0 ≤ y ∧ (sectsAt v x)[y.toNat]? = some A ∧ 0 ≤ z ∧ z ≤ LN A.bytes ∧ A.bytes.length ≤ 48) ∧ (∀ (B : List Objt), (∀ (C : Int), (∀ (D : Int), (∀ (E : Int), (∀ (F : Int), (∀ (G : Sect), (link B C).snd = 0 ∧ 0 ≤ D ∧ D < LN B ∧ (sectsAt B D).length ≤ 8 ∧ 0 ≤ E ∧ (sectsAt B D)[E.toNat]? = some G ∧ 0 ≤ F ∧ F ≤ LN G.bytes ∧ G.bytes.length ≤ 48 →
 (B.length - D.toNat) * 50000 + (10 - E).toNat * 2000 + (50 - F).toNat * 20 ≤ (v.length - x.toNat) * 50000 + (10 - y).toNat * 2000 + (50 - z).toNat * 20 →
 G.bytes.length ≤ 9223372036854775807 →
 (decide (F < LN G.bytes) = true →
 (∃ (H : List Objt), (∃ (I : Int), (∃ (J : Int), (∃ (K : Int), (∃ (L : Int), (∃ (M : Int), (∃ (N : Bool), (∃ (O : Sect), B = H ∧ C = I ∧ D = J ∧ E = K ∧ F = L ∧ 0 = M ∧ (layout B C).places = (layout H I).places ∧ endPl B C = endPl H I ∧ false = N ∧ (link B C).fst.base = (link H I).fst.base ∧ (link B C).fst.bytes = (link H I).fst.bytes ∧ G.name = O.name ∧ G.kind = O.kind ∧ G.align = O.align ∧ G.bytes = O.bytes ∧ G.size = O.size ∧ G.fixups = O.fixups ∧ ((link H I).snd = 0 ∧ N = flB (O.fixups.take M.toNat) L ∧ 0 ≤ J ∧ J < LN H ∧ (sectsAt H J).length ≤ 8 ∧ 0 ≤ K ∧ (sectsAt H J)[K.toNat]? = some O ∧ 0 ≤ L ∧ L < LN O.bytes ∧ O.bytes.length ≤ 48 ∧ O.fixups.length ≤ 6 ∧ 0 ≤ M ∧ M ≤ LN O.fixups) ∧ (∀ (P : List Objt), (∀ (Q : Int), (∀ (R : Int), (∀ (S : Int), (∀ (T : Int), (∀ (U : Int), (∀ (V : Bool), (∀ (W : Sect), (link P Q).snd = 0 ∧ V = flB (W.fixups.take U.toNat) T ∧ 0 ≤ R ∧ R < LN P ∧ (sectsAt P R).length ≤ 8 ∧ 0 ≤ S ∧ (sectsAt P R)[S.toNat]? = some W ∧ 0 ≤ T ∧ T < LN W.bytes ∧ W.bytes.length ≤ 48 ∧ W.fixups.length ≤ 6 ∧ 0 ≤ U ∧ U ≤ LN W.fixups →
 (P.length - R.toNat) * 50000 + (10 - S).toNat * 2000 + (50 - T).toNat * 20 + (10 - U).toNat ≤ (H.length - J.toNat) * 50000 + (10 - K).toNat * 2000 + (50 - L).toNat * 20 + (10 - M).toNat →
 W.fixups.length ≤ 9223372036854775807 →
 (decide (U < LN W.fixups) = true →
 (V = true →
 i64 (U + 1) ∧ (∃ (X : List Objt), (∃ (Y : Int), (∃ (Z : Int), (∃ (aa : Int), (∃ (ab : Int), (∃ (ac : Int), (∃ (ad : Bool), (∃ (ae : Sect), P = X ∧ Q = Y ∧ R = Z ∧ S = aa ∧ T = ab ∧ U + 1 = ac ∧ (layout P Q).places = (layout X Y).places ∧ endPl P Q = endPl X Y ∧ true = ad ∧ (link P Q).fst.base = (link X Y).fst.base ∧ (link P Q).fst.bytes = (link X Y).fst.bytes ∧ W.name = ae.name ∧ W.kind = ae.kind ∧ W.align = ae.align ∧ W.bytes = ae.bytes ∧ W.size = ae.size ∧ W.fixups = ae.fixups ∧ ((link X Y).snd = 0 ∧ ad = flB (ae.fixups.take ac.toNat) ab ∧ 0 ≤ Z ∧ Z < LN X ∧ (sectsAt X Z).length ≤ 8 ∧ 0 ≤ aa ∧ (sectsAt X Z)[aa.toNat]? = some ae ∧ 0 ≤ ab ∧ ab < LN ae.bytes ∧ ae.bytes.length ≤ 48 ∧ ae.fixups.length ≤ 6 ∧ 0 ≤ ac ∧ ac ≤ LN ae.fixups) ∧ (X.length - Z.toNat) * 50000 + (10 - aa).toNat * 2000 + (50 - ab).toNat * 20 + (10 - ac).toNat < (P.length - R.toNat) * 50000 + (10 - S).toNat * 2000 + (50 - T).toNat * 20 + (10 - U).toNat))))))))) ∧ (V = false →
 (0 ≤ U ∧ U < LN W.fixups) ∧ (∀ (af : Fixup), W.fixups[U.toNat]? = some af →
 Ok (Ty.st SN.fixup) af →
 (decide (af.at_ ≤ T) = true →
 (0 ≤ U ∧ U < LN W.fixups) ∧ (∀ (ag : Fixup), W.fixups[U.toNat]? = some ag →
 Ok (Ty.st SN.fixup) ag →
 (0 ≤ U ∧ U < LN W.fixups) ∧ (∀ (ah : Fixup), W.fixups[U.toNat]? = some ah →
 Ok (Ty.st SN.fixup) ah →
 i64 (ag.at_ + fixWide ah.kind) ∧ i64 (U + 1) ∧ (∃ (ai : List Objt), (∃ (aj : Int), (∃ (ak : Int), (∃ (al : Int), (∃ (am : Int), (∃ (an : Int), (∃ (ao : Bool), (∃ (ap : Sect), P = ai ∧ Q = aj ∧ R = ak ∧ S = al ∧ T = am ∧ U + 1 = an ∧ (layout P Q).places = (layout ai aj).places ∧ endPl P Q = endPl ai aj ∧ decide (T < ag.at_ + fixWide ah.kind) = ao ∧ (link P Q).fst.base = (link ai aj).fst.base ∧ (link P Q).fst.bytes = (link ai aj).fst.bytes ∧ W.name = ap.name ∧ W.kind = ap.kind ∧ W.align = ap.align ∧ W.bytes = ap.bytes ∧ W.size = ap.size ∧ W.fixups = ap.fixups ∧ ((link ai aj).snd = 0 ∧ ao = flB (ap.fixups.take an.toNat) am ∧ 0 ≤ ak ∧ ak < LN ai ∧ (sectsAt ai ak).length ≤ 8 ∧ 0 ≤ al ∧ (sectsAt ai ak)[al.toNat]? = some ap ∧ 0 ≤ am ∧ am < LN ap.bytes ∧ ap.bytes.length ≤ 48 ∧ ap.fixups.length ≤ 6 ∧ 0 ≤ an ∧ an ≤ LN ap.fixups) ∧ (ai.length - ak.toNat) * 50000 + (10 - al).toNat * 2000 + (50 - am).toNat * 20 + (10 - an).toNat < (P.length - R.toNat) * 50000 + (10 - S).toNat * 2000 + (50 - T).toNat * 20 + (10 - U).toNat))))))))))) ∧ (decide (af.at_ ≤ T) = false →
 i64 (U + 1) ∧ (∃ (aq : List Objt), (∃ (ar : Int), (∃ (au : Int), (∃ (av : Int), (∃ (aw : Int), (∃ (ax : Int), (∃ (ay : Bool), (∃ (az : Sect), P = aq ∧ Q = ar ∧ R = au ∧ S = av ∧ T = aw ∧ U + 1 = ax ∧ (layout P Q).places = (layout aq ar).places ∧ endPl P Q = endPl aq ar ∧ false = ay ∧ (link P Q).fst.base = (link aq ar).fst.base ∧ (link P Q).fst.bytes = (link aq ar).fst.bytes ∧ W.name = az.name ∧ W.kind = az.kind ∧ W.align = az.align ∧ W.bytes = az.bytes ∧ W.size = az.size ∧ W.fixups = az.fixups ∧ ((link aq ar).snd = 0 ∧ ay = flB (az.fixups.take ax.toNat) aw ∧ 0 ≤ au ∧ au < LN aq ∧ (sectsAt aq au).length ≤ 8 ∧ 0 ≤ av ∧ (sectsAt aq au)[av.toNat]? = some az ∧ 0 ≤ aw ∧ aw < LN az.bytes ∧ az.bytes.length ≤ 48 ∧ az.fixups.length ≤ 6 ∧ 0 ≤ ax ∧ ax ≤ LN az.fixups) ∧ (aq.length - au.toNat) * 50000 + (10 - av).toNat * 2000 + (50 - aw).toNat * 20 + (10 - ax).toNat < (P.length - R.toNat) * 50000 + (10 - S).toNat * 2000 + (50 - T).toNat * 20 + (10 - U).toNat)))))))))))) ∧ (decide (U < LN W.fixups) = false →
 (Bool.not V = true →
 (0 ≤ R ∧ R < LN (layout P Q).places) ∧ (∀ (aA : List Int), (layout P Q).places[R.toNat]? = some aA →
 Ok (Ty.list (Ty.int IntKind.i64)) aA →
 (0 ≤ S ∧ S < LN aA) ∧ (∀ (aB : Int), aA[S.toNat]? = some aB →
 Ok (Ty.int IntKind.i64) aB →
 i64 (aB + T) ∧ (0 ≤ T ∧ T < LN W.bytes) ∧ (∀ (aC : Int), W.bytes[T.toNat]? = some aC →
 Ok (Ty.int IntKind.u8) aC →
 (decide (imgByte (link P Q).fst (aB + T) ≠ aC) = true →
 false = true ∧ True) ∧ (decide (imgByte (link P Q).fst (aB + T) ≠ aC) = false →
 i64 (T + 1) ∧ (∃ (aD : List Objt), (∃ (aE : Int), (∃ (aF : Int), (∃ (aG : Int), (∃ (aH : Int), (∃ (aI : Sect), P = aD ∧ Q = aE ∧ R = aF ∧ S = aG ∧ T + 1 = aH ∧ (layout P Q).places = (layout aD aE).places ∧ endPl P Q = endPl aD aE ∧ (link P Q).fst.base = (link aD aE).fst.base ∧ (link P Q).fst.bytes = (link aD aE).fst.bytes ∧ W.name = aI.name ∧ W.kind = aI.kind ∧ W.align = aI.align ∧ W.bytes = aI.bytes ∧ W.size = aI.size ∧ W.fixups = aI.fixups ∧ ((link aD aE).snd = 0 ∧ 0 ≤ aF ∧ aF < LN aD ∧ (sectsAt aD aF).length ≤ 8 ∧ 0 ≤ aG ∧ (sectsAt aD aF)[aG.toNat]? = some aI ∧ 0 ≤ aH ∧ aH ≤ LN aI.bytes ∧ aI.bytes.length ≤ 48) ∧ (aD.length - aF.toNat) * 50000 + (10 - aG).toNat * 2000 + (50 - aH).toNat * 20 < (B.length - D.toNat) * 50000 + (10 - E).toNat * 2000 + (50 - F).toNat * 20))))))))))) ∧ (Bool.not V = false →
 i64 (T + 1) ∧ (∃ (aJ : List Objt), (∃ (aK : Int), (∃ (aL : Int), (∃ (aM : Int), (∃ (aN : Int), (∃ (aO : Sect), P = aJ ∧ Q = aK ∧ R = aL ∧ S = aM ∧ T + 1 = aN ∧ (layout P Q).places = (layout aJ aK).places ∧ endPl P Q = endPl aJ aK ∧ (link P Q).fst.base = (link aJ aK).fst.base ∧ (link P Q).fst.bytes = (link aJ aK).fst.bytes ∧ W.name = aO.name ∧ W.kind = aO.kind ∧ W.align = aO.align ∧ W.bytes = aO.bytes ∧ W.size = aO.size ∧ W.fixups = aO.fixups ∧ ((link aJ aK).snd = 0 ∧ 0 ≤ aL ∧ aL < LN aJ ∧ (sectsAt aJ aL).length ≤ 8 ∧ 0 ≤ aM ∧ (sectsAt aJ aL)[aM.toNat]? = some aO ∧ 0 ≤ aN ∧ aN ≤ LN aO.bytes ∧ aO.bytes.length ≤ 48) ∧ (aJ.length - aL.toNat) * 50000 + (10 - aM).toNat * 2000 + (50 - aN).toNat * 20 < (B.length - D.toNat) * 50000 + (10 - E).toNat * 2000 + (50 - F).toNat * 20))))))))))))))))))))))))) ∧ (decide (F < LN G.bytes) = false →
 i64 (E + 1) ∧ (∃ (aP : List Objt), (∃ (aQ : Int), (∃ (aR : Int), (∃ (aS : Int), B = aP ∧ C = aQ ∧ D = aR ∧ E + 1 = aS ∧ (layout B C).places = (layout aP aQ).places ∧ endPl B C = endPl aP aQ ∧ (link B C).fst.base = (link aP aQ).fst.base ∧ (link B C).fst.bytes = (link aP aQ).fst.bytes ∧ ((link aP aQ).snd = 0 ∧ 0 ≤ aR ∧ aR < LN aP ∧ (sectsAt aP aR).length ≤ 8 ∧ 0 ≤ aS ∧ aS ≤ LN (sectsAt aP aR)) ∧ (aP.length - aR.toNat) * 50000 + (10 - aS).toNat * 2000 < (n.length - p.toNat) * 50000 + (10 - q).toNat * 2000)))))))))))))))))))) ∧ (decide (q < LN s.sects) = false →
 i64 (p + 1) ∧ (∃ (aT : List Objt), (∃ (aU : Int), (∃ (aV : Int), n = aT ∧ o = aU ∧ p + 1 = aV ∧ (layout n o).places = (layout aT aU).places ∧ endPl n o = endPl aT aU ∧ (link n o).fst.base = (link aT aU).fst.base ∧ (link n o).fst.bytes = (link aT aU).fst.bytes ∧ ((link aT aU).snd = 0 ∧ 0 ≤ aV ∧ aV ≤ LN aT) ∧ aT.length - aV.toNat < g.length - i.toNat)))))) ∧ (decide (q < LN r) = false →
 i64 (p + 1) ∧ (∃ (aW : List Objt), (∃ (aX : Int), (∃ (aY : Int), n = aW ∧ o = aX ∧ p + 1 = aY ∧ (layout n o).places = (layout aW aX).places ∧ endPl n o = endPl aW aX ∧ (link n o).fst.base = (link aW aX).fst.base ∧ (link n o).fst.bytes = (link aW aX).fst.bytes ∧ ((link aW aX).snd = 0 ∧ 0 ≤ aY ∧ aY ≤ LN aW) ∧ aW.length - aY.toNat < g.length - i.toNat)))))))))))))) ∧ (decide (i < LN g) = false →
 (decide ((link g h).fst.base = h) = true →
 (link g h).fst.bytes.length ≤ 9223372036854775807 →
 i64 (endPl g h - h) ∧ (decide (LN (link g h).fst.bytes = endPl g h - h) = true →
 decide (imgOk (link g h).fst) = true ∧ True) ∧ (decide (LN (link g h).fst.bytes = endPl g h - h) = false →
 false = true ∧ True)) ∧ (decide ((link g h).fst.base = h) = false →
 false = true ∧ True))) ∧ (decide (i < LN (layout g h).places) = false →
 (decide ((link g h).fst.base = h) = true →
 (link g h).fst.bytes.length ≤ 9223372036854775807 →
 i64 (endPl g h - h) ∧ (decide (LN (link g h).fst.bytes = endPl g h - h) = true →
 decide (imgOk (link g h).fst) = true ∧ True) ∧ (decide (LN (link g h).fst.bytes = endPl g h - h) = false →
 false = true ∧ True)) ∧ (decide ((link g h).fst.base = h) = false →
 false = true ∧ True)))))))))))) := by kernel_rfl
theorem ok_laws_FnLink : ConOK Tryz.prog 9 C_laws_FnLink := by
 refine con_q (l := L_laws_FnLink) ⟨⟨ok_spec_DrawLink, det_spec_DrawLink⟩, ⟨⟨ok_impl_Link, det_impl_Link⟩, ⟨⟨ok_spec_Link, det_spec_Link⟩, ⟨⟨ok_laws_sameImage, det_laws_sameImage⟩, ⟨⟨ok_impl_PlaceSections, det_impl_PlaceSections⟩, ⟨⟨ok_impl_NamesTwice, det_impl_NamesTwice⟩, ⟨⟨ok_impl_NamesMissing, det_impl_NamesMissing⟩, ⟨⟨ok_laws_alive, det_laws_alive⟩, ⟨⟨ok_impl_FixupWide, det_impl_FixupWide⟩, ⟨⟨ok_impl_ImageByte, det_impl_ImageByte⟩, ⟨⟨ok_impl_ImageValid, det_impl_ImageValid⟩, trivial⟩⟩⟩⟩⟩⟩⟩⟩⟩⟩⟩ Tryz.func9 rfl (by decide) (by kernel_rfl) rfl an_laws_FnLink fun x ho hx => ?_
 obtain ⟨c, ⟨⟩⟩ := x
 refine Keeps.of (vc_laws_FnLink c) ?_
 revert c ho hx
 show ∀ (c : List (Int)), _
 intro c ho hx
 dsimp only [C_laws_FnLink, okPTL, okPT, Ok, Ty.cells, SN.cells, OkL, OkC, okI, ci, cb, cs, cl] at ho
 dsimp only [C_laws_FnLink, vc, v1, decB, SR.pre] at hx
 (try delta i64 LN); simp only [DRt, ex_sect2]; (repeat' first | apply And.intro | (intro x hq _; replace hq := List.mem_of_getElem? hq; simp only [List.mem_cons, List.not_mem_nil, or_false] at hq) | intro _); all_goals (try omega)
 all_goals first
  | omega
  | (have := objsA_sz (by assumption) (by omega); omega)
  | exact NE_selfL (by assumption)
  | exact NT_L (by assumption)
  | exact FL_1 (by assumption) (by assumption)
  | exact FL_2 (by assumption) (by assumption)
  | exact FL_3 (by assumption)
  | exact FL_4 (by assumption) (by assumption)
  | exact FL_8 (by assumption)
  | exact FL_pl (by assumption) (by assumption)
  | exact K_two (by assumption) (by assumption) (by assumption)
  | exact sectsAt_get (by assumption) (by assumption)
  | exact FL_48 (by assumption) (by assumption) (by assumption)
  | exact FL_j (by assumption) (by assumption)
  | exact FL_j1 (by assumption) (by assumption)
  | exact FL_k (by assumption) (by assumption)
  | exact FL_e1 (by assumption)
  | exact FL_e2 (by assumption)
  | exact FL_b1 (by assumption)
  | exact FL_b2 (by assumption)
  | exact FL_b3 (by assumption)
  | exact FL_b4 (by assumption)
  | exact FL_b5 (by assumption) (by assumption)
  | exact FL_b6 (by assumption) (by assumption)
  | exact FL_6 (by assumption) (by assumption) (by assumption) (by assumption)
  | exact FL_r (by assumption) (by assumption) (by assumption) (by assumption) (by assumption) (by assumption)
  | exact FL_v1 (by assumption) (by assumption) (by assumption) (by assumption) (by assumption) (by assumption) (by assumption) (by assumption) (by assumption)
  | exact FL_v2 (by assumption) (by assumption) (by assumption) (by assumption) (by assumption) (by assumption) (by assumption) (by assumption) (by assumption)
  | exact flB_zero.symm
  | exact FW_1 (by assumption) (by assumption) (by assumption) (by assumption) (by assumption) (by assumption)
  | exact FW_2 (by assumption) (by assumption) (by assumption) (by assumption) (by assumption) (by assumption)
  | exact FW_3 (by assumption) (by assumption) (by assumption) (by assumption)
  | exact FW_4 (by assumption) (by assumption) (by assumption) (by assumption) (by assumption) (by assumption) (by assumption)
  | exact FW_5 (by assumption) (by assumption) (by assumption) (by assumption) (by assumption)
  | exact FW_6 (by assumption) (by assumption) (by assumption) (by assumption) (by assumption) (by assumption) (by assumption) (by assumption) (by assumption) (by assumption) (by assumption) (by assumption)
  | skip

theorem rd_u : Reads Tryz.prog 5 [.u] := reads_u8 Tryz.underlying5
theorem rd_uL : Reads Tryz.prog 24 [(.list .u)] := reads_slice (t' := .u) Tryz.underlying24 (by kernel_rfl) (by decide) rd_u
set_option maxRecDepth 100000 in
theorem lifted_FnLink (os : Os) (started : os.Started) (H : Type) (enc : TypeId × Value → H) :
  ReturnsInHanded {} Tryz.checked os 9 .any (Rows.fnLinkSpec.pre6 enc Tryz.prog Tryz.f9 Rows.fnLinkRow.domain false) (Rows.fnLinkSpec.post enc Tryz.prog Tryz.f9 false true false false) := by
 refine returnsInHanded_of_change (C := Tryz.checked) head_own started (by kernel_rfl) Tryz.func9
  (ChangeSpec.witness6 (enc := enc) (C := Tryz.checked) false ⟨#[], #[.slice none 0 0], []⟩ 8 (by kernel_rfl) (by kernel_rfl) (by kernel_rfl) (by kernel_rfl)) ?_
 intro W base args ds gs before hval0 hW _ _
 have hval : ∀ (j : Nat) t v, Tryz.f9.params[j]? = some t → args[j]? = some v → Value.okWide Tryz.prog W .any base t v := hval0
 have hW' := hW
 obtain ⟨p, q, hA0, hV, rfl, hfz, hnd⟩ := hW
 have hA : DataW.TrodAll enc Tryz.prog W 0 (fun _ => true) true Tryz.f9.params.toList args.toList ds p := hA0
 rw [Tryz.params9] at hA hval
 obtain ⟨v0, vs0, d0, ds0, p0, q0, hargs, rfl, rfl, h0, r0⟩ := trodAll_cons hA
 obtain ⟨rfl, rfl, rfl⟩ := trodAll_nil r0
 obtain rfl : args = #[v0] := by cases args; simp_all
 obtain ⟨rfl, rfl⟩ := trodVars_none hV
 have k0 := h0
 obtain ⟨x0, g0⟩ := open_slice1 Tryz.underlying24 rd_uL (hval 0 24 v0 rfl rfl) h0
 clear hA0 hval0 hval
 refine (law_calls ok_laws_FnLink (x0, ()) rfl rfl (W := W) (vals := [v0]) ⟨g0, trivial⟩).mono fun e W' ⟨he, bel⟩ => ?_
 subst he
 exact ⟨_, rfl, _, _, _, [], _, [], hW', trodAll_mk1 (shut_bool Tryz.underlying4 _), (trodAll_cons_mk (Below.trod head_laid (by kernel_rfl) (of_decide_eq_true (by kernel_rfl)) k0 bel (trod_lt_ k0)) trodAll_mk0), rfl, bel.frame _, fun h => by cases h⟩

theorem over_FnLink : Rows.fnLinkRow.holds Tryz.pinned (OpenSpec.ofChange Rows.fnLinkSpec) :=
 OpenClaim.holds_of_wide 9 Tryz.f9 rfl rfl rfl rfl rfl rfl rfl ⟨rfl, rfl, rfl, rfl, rfl⟩ rfl rfl rfl rfl rfl (by kernel_rfl) Tryz.func9 (joined_of head_laid head_rowed head_stops head_stopk head_heard head_enter (show (Rows.fnLinkRow.lifted == Tryz.prog.liftsFinal) = true by rw [head_final]; rfl) (show (Tryz.prog.make == some Rows.fnLinkRow.make) = true by rw [head_make]; rfl) (by kernel_rfl))
  (of_decide_eq_true (by kernel_rfl)) (by unfold Func.isWrapper; first | (rw [if_pos (by decide +kernel)]; kernel_rfl) | (rw [if_neg (by decide +kernel)]; exact ⟨rfl, rfl⟩))
  (fun os started H enc _ => lifted_FnLink os started H enc)

theorem proved_FnLink : Rows.FnLinkSaid := over_FnLink
#print axioms proved_FnLink

end Go.Proofs.YtfdngmkmeeaeeaaGreat
