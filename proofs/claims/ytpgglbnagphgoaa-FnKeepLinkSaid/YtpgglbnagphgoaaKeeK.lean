/- Sections that are reached, and sections that are kept: the contracts. -/
import Derived.Test.YtpgglbnagphgoaaKeeDK
import Derived.Test.YtpgglbnagphgoaaStrK
set_option linter.unusedVariables false
set_option linter.unusedSimpArgs false
set_option maxRecDepth 200000
set_option maxHeartbeats 4000000
namespace Go.Proofs.Ytpgglbnagphgoaa
open Go Go.RowKit


theorem RB_0 {n : List ByteArray} {o : Objt} : repl (o.sects.length : Int) false = qN n (o.syms.take (Int.toNat 0)) (List.replicate o.sects.length false) := by simp [repl, qN]
theorem RB_w {o : Objt} {k : Int} {s : Sym} (hs : o.syms[k.toNat]? = some s) (ho : objB o = true) : s.wher < o.sects.length := by
 have h := objB_sym ho (List.mem_of_getElem? hs)
 have := objB_lens ho
 rcases h.2 with h4 | h4 | h4 <;> omega
theorem RB_1 {o : Objt} {n : List ByteArray} {k j : Int} {s : Sym} (hs : o.syms[j.toNat]? = some s) (ho : objB o = true) : s.wher < (qN n (o.syms.take k.toNat) (List.replicate o.sects.length false)).length := by
 rw [qN_len, List.length_replicate]; exact RB_w hs ho
theorem RB_1m {o : Objt} {n m : List ByteArray} {k j i : Int} {t s : Sym} (hs : o.syms[j.toNat]? = some s) (ho : objB o = true) : s.wher < (qM m (qN n (o.syms.take k.toNat) (List.replicate o.sects.length false)) t i).length := by
 rw [qM_len, qN_len, List.length_replicate]; exact RB_w hs ho
theorem RB_y {o : Objt} {n : List ByteArray} {k : Int} {s : Sym} (h3 : inB n s.name = true) (h2 : 0 ≤ s.wher) (h1 : ¬ s.bind = 0) (h : o.syms[k.toNat]? = some s) (hk : 0 ≤ k) : (qN n (o.syms.take k.toNat) (List.replicate o.sects.length false)).set s.wher.toNat true = qN n (o.syms.take (k + 1).toNat) (List.replicate o.sects.length false) := qN_yes hk h h1 h2 h3
theorem RB_n1 {o : Objt} {n : List ByteArray} {b : List Bool} {k : Int} {s : Sym} (h3 : inB n s.name = false) (h : o.syms[k.toNat]? = some s) (hk : 0 ≤ k) : qN n (o.syms.take k.toNat) b = qN n (o.syms.take (k + 1).toNat) b := qN_no hk h (.inr (.inr h3))
theorem RB_n2 {o : Objt} {n : List ByteArray} {b : List Bool} {k : Int} {s : Sym} (h3 : s.wher < 0) (h : o.syms[k.toNat]? = some s) (hk : 0 ≤ k) : qN n (o.syms.take k.toNat) b = qN n (o.syms.take (k + 1).toNat) b := qN_no hk h (.inr (.inl h3))
theorem RB_n3 {o : Objt} {n : List ByteArray} {b : List Bool} {k : Int} {s : Sym} (h3 : s.bind = 0) (h : o.syms[k.toNat]? = some s) (hk : 0 ≤ k) : qN n (o.syms.take k.toNat) b = qN n (o.syms.take (k + 1).toNat) b := qN_no hk h (.inl h3)
theorem RB_n4 {o : Objt} {n : List ByteArray} {b : List Bool} {k : Int} {s : Sym} (h3 : ¬ s.bind ≠ 0) (h : o.syms[k.toNat]? = some s) (hk : 0 ≤ k) : qN n (o.syms.take k.toNat) b = qN n (o.syms.take (k + 1).toNat) b := qN_no hk h (.inl (Classical.not_not.1 h3))
theorem fixO_6 {o : Objt} {k : Int} (ho : objB o = true) : (fixO o k).length ≤ 6 := by
 unfold fixO
 split
 ·rename_i s hs; exact fix_6 ho hs
 ·simp
theorem fixO_l {o : Objt} {k : Int} {s : Sect} (h : o.sects[k.toNat]? = some s) : (s.fixups.length : Int) = (fixO o k).length := by rw [fixO_eq h]
theorem RF_to {o : Objt} {k j : Int} {f : Fixup} (hf : (fixO o k)[j.toNat]? = some f) (ho : objB o = true) : 0 ≤ f.to ∧ f.to < o.syms.length := by
 unfold fixO at hf
 split at hf
 ·rename_i s hs; exact fix_in ho hs hf
 ·cases hf
theorem RF_at {o : Objt} {k j : Int} {f : Fixup} {s : Sect} (hf : s.fixups[j.toNat]? = some f) (hs : o.sects[k.toNat]? = some s) : (fixO o k)[j.toNat]? = some f := by rw [fixO_eq hs]; exact hf
theorem RQ_l {o : Objt} {n : List ByteArray} {t k j : Int} : (qJ o k (qK o (qT o (r0 o n) t) k) j).length = o.sects.length := by rw [qJ_len, qK_len, qT_len, r0_len]
theorem RQ_k {o : Objt} {n : List ByteArray} {t k j i : Int} (h : i < o.sects.length) : i < (qJ o k (qK o (qT o (r0 o n) t) k) j).length := by rw [RQ_l]; exact h
theorem RQ_w {o : Objt} {n : List ByteArray} {t k j i : Int} {s : Sym} (hs : o.syms[i.toNat]? = some s) (ho : objB o = true) : s.wher < (qJ o k (qK o (qT o (r0 o n) t) k) j).length := by rw [RQ_l]; exact RB_w hs ho
theorem RQ_y {o : Objt} {k j : Int} {b : List Bool} {f : Fixup} {s : Sym} {a : Bool} (hb : (qJ o k b j)[k.toNat]? = some a) (ha : a = true) (hw : 0 ≤ s.wher) (hs : o.syms[f.to.toNat]? = some s) (h : (fixO o k)[j.toNat]? = some f) (hj : 0 ≤ j) : (qJ o k b j).set s.wher.toNat true = qJ o k b (j + 1) := qJ_yes hj h hs (by rw [hb, ha]) hw
theorem RQ_n {o : Objt} {k j : Int} {b : List Bool} {f : Fixup} {s : Sym} (hw : s.wher < 0) (hs : o.syms[f.to.toNat]? = some s) (h : (fixO o k)[j.toNat]? = some f) (hj : 0 ≤ j) : qJ o k b j = qJ o k b (j + 1) := qJ_no hj h hs hw
theorem RQ_f {o : Objt} {k j : Int} {b : List Bool} {f : Fixup} {a : Bool} (ha : a = false) (hb : (qJ o k b j)[k.toNat]? = some a) (h : (fixO o k)[j.toNat]? = some f) (hj : 0 ≤ j) : qJ o k b j = qJ o k b (j + 1) := qJ_off hj h (by rw [hb, ha])
theorem RQ_d {o : Objt} {k j : Int} {b : List Bool} (h : ((fixO o k).length : Int) ≤ j) (hk : 0 ≤ k) : qJ o k (qK o b k) j = qK o b (k + 1) := qK_done hk h
theorem RQ_o {o : Objt} {k j : Int} {b : List Bool} {a : Bool} (ha : a = false) (hb : (qJ o k (qK o b k) j)[k.toNat]? = some a) (hk : 0 ≤ k) (hj : 0 ≤ j) : qJ o k (qK o b k) j = qK o b (k + 1) := qK_off hk hj (by rw [hb, ha])
theorem RQ_t {o : Objt} {k t : Int} {b : List Bool} (h : (o.sects.length : Int) ≤ k) (h' : k ≤ o.sects.length) (ht : 0 ≤ t) : qK o (qT o b t) k = qT o b (t + 1) := qT_done ht h h'
theorem RQ_e {o : Objt} {t : Int} {n : List ByteArray} (h : (o.sects.length : Int) ≤ t) (h' : t ≤ o.sects.length) : qT o (r0 o n) t = rchB o n := qT_end h h'
theorem RT_y {l : List Bool} {i : Int} {a : Bool} (ha : a = true) (h : l[i.toNat]? = some a) (hi : 0 ≤ i) : tru (l.take i.toNat) 0 ++ [i] = tru (l.take (i + 1).toNat) 0 := tru_yes hi (by rw [h, ha])
theorem RT_n {l : List Bool} {i : Int} {a : Bool} (ha : a = false) (h : l[i.toNat]? = some a) (hi : 0 ≤ i) : tru (l.take i.toNat) 0 = tru (l.take (i + 1).toNat) 0 := tru_no hi (by rw [h, ha])
theorem RT_e {o : Objt} {n : List ByteArray} {i : Int} (h : ((rchB o n).length : Int) ≤ i) (ho : objB o = true) : tru ((rchB o n).take i.toNat) 0 = rch o n := by rw [tru_end h, rch_yes ho]
theorem RT_b {o : Objt} {n : List ByteArray} {i : Int} (ho : objB o = true) : (tru ((rchB o n).take i.toNat) 0).length ≤ 8 := by
 have h := tru_len (l := (rchB o n).take i.toNat) (k := 0)
 rw [List.length_take, rchB_len] at h
 have := objB_lens ho
 omega
theorem RT_b1 {o : Objt} {n : List ByteArray} {i : Int} (ho : objB o = true) : ((tru ((rchB o n).take i.toNat) 0).length + (0 + 1)) * 8 ≤ 140737488355328 := by have := RT_b (n := n) (i := i) ho; omega
theorem RT_b2 {o : Objt} {n : List ByteArray} {i : Int} (ho : objB o = true) : (tru ((rchB o n).take i.toNat) 0).length + (0 + 1) ≤ 1000000000000 := by have := RT_b (n := n) (i := i) ho; omega
def C_impl_Object_reached : Con := { ps := [.ro (.st .obj), .ro (.list .str)], out := fun x => let o : Objt := x.1; let names : List (ByteArray) := x.2.1; .req (objB o = true) (newL .bool (rchB o names)), det := true }
abbrev L_impl_Object_reached : List (Nat × Con) := [(68, C_slices_Contains_string_string)]
def G_impl_Object_reached : Cfg := GK L_impl_Object_reached
def an_impl_Object_reached : PTL C_impl_Object_reached.ps → Nat → Option Ann := fun x kk_ => let o : Objt := x.1; let names : List (ByteArray) := x.2.1; if kk_ = 3 then some (.all (Int) fun k => .giv (0 ≤ k ∧ k ≤ o.syms.length) (.mk [(20, ai k), (18, al (.st .sym) o.syms), (19, ai o.syms.length), (5, asl 20), (1, al .str names), (2, aref 62)] [(20, .row (some 4) .bool (qN names (o.syms.take k.toNat) (List.replicate o.sects.length false)) true), (62, bx (ast .obj o))] ((o.syms.length - k.toNat)))) else if kk_ = 9 then some (.all (Int) fun t => .giv (0 ≤ t ∧ t ≤ o.sects.length) (.mk [(46, ai t), (45, ai o.sects.length), (5, asl 20), (2, aref 62)] [(20, .row (some 4) .bool (qT o (r0 o names) t) true), (62, bx (ast .obj o))] ((o.sects.length - t.toNat)))) else if kk_ = 2011 then some (.all (Int) fun t => .all (Int) fun k => .giv (0 ≤ t ∧ t < o.sects.length ∧ 0 ≤ k ∧ k ≤ o.sects.length) (.mk [(46, ai t), (51, ai k), (45, ai o.sects.length), (50, ai o.sects.length), (49, al (.st .sect) o.sects), (5, asl 20), (2, aref 62)] [(20, .row (some 4) .bool (qK o (qT o (r0 o names) t) k) true), (62, bx (ast .obj o))] ((o.sects.length - t.toNat) * 1000000 + (100 - k).toNat * 1000))) else if kk_ = 2014 then some (.all (Int) fun t => .all (Int) fun k => .all (Int) fun j => .giv (0 ≤ t ∧ t < o.sects.length ∧ 0 ≤ k ∧ k < o.sects.length ∧ (fixO o k).length ≤ 6 ∧ 0 ≤ j ∧ j ≤ (fixO o k).length) (.mk [(46, ai t), (51, ai k), (59, ai j), (45, ai o.sects.length), (50, ai o.sects.length), (58, ai (fixO o k).length), (49, al (.st .sect) o.sects), (57, al (.st .fixup) (fixO o k)), (8, ai k), (5, asl 20), (2, aref 62)] [(20, .row (some 4) .bool (qJ o k (qK o (qT o (r0 o names) t) k) j) true), (62, bx (ast .obj o))] ((o.sects.length - t.toNat) * 1000000 + (100 - k).toNat * 1000 + (100 - j).toNat))) else none
theorem vc_impl_Object_reached (o : Objt) (names : List (ByteArray)) : (KP Try.f40 G_impl_Object_reached C_impl_Object_reached an_impl_Object_reached (o, names, ())) = (o.sects.length ≤ 9223372036854775807 →
 (LN o.sects = LN o.sects ∧ 0 ≤ LN o.sects ∧ LN o.sects ≤ 1000000000000 ∧ @Nat.cast Int _ (1 : Nat) * LN o.sects ≤ 140737488355328) ∧ (o.syms.length ≤ 9223372036854775807 →
 (∃ (a : Int), 0 = a ∧ o.syms = o.syms ∧ LN o.syms = LN o.syms ∧ names = names ∧ @repl Bool (LN o.sects) false = qN names (o.syms.take a.toNat) (@List.replicate Bool o.sects.length false) ∧ o.sects = o.sects ∧ o.syms = o.syms ∧ (0 ≤ a ∧ a ≤ LN o.syms) ∧ True) ∧ (∀ (b : Int), 0 ≤ b ∧ b ≤ LN o.syms →
 (decide (b < LN o.syms) = true →
 (0 ≤ b ∧ b < LN o.syms) ∧ (∀ (c : Sym), o.syms[b.toNat]? = some c →
 Ok (Ty.st SN.sym) c →
 (decide (c.bind ≠ 0) = true →
 (decide (0 ≤ c.wher) = true →
 (inB names c.name = true →
 (0 ≤ c.wher ∧ c.wher < LN (qN names (o.syms.take b.toNat) (@List.replicate Bool o.sects.length false))) ∧ (∀ (d : Bool), (qN names (o.syms.take b.toNat) (@List.replicate Bool o.sects.length false))[c.wher.toNat]? = some d →
 i64 (b + 1) ∧ (∃ (e : Int), b + 1 = e ∧ o.syms = o.syms ∧ LN o.syms = LN o.syms ∧ names = names ∧ (qN names (o.syms.take b.toNat) (@List.replicate Bool o.sects.length false)).set c.wher.toNat true = qN names (o.syms.take e.toNat) (@List.replicate Bool o.sects.length false) ∧ o.sects = o.sects ∧ o.syms = o.syms ∧ (0 ≤ e ∧ e ≤ LN o.syms) ∧ o.syms.length - e.toNat < o.syms.length - b.toNat))) ∧ (inB names c.name = false →
 i64 (b + 1) ∧ (∃ (f : Int), b + 1 = f ∧ o.syms = o.syms ∧ LN o.syms = LN o.syms ∧ names = names ∧ qN names (o.syms.take b.toNat) (@List.replicate Bool o.sects.length false) = qN names (o.syms.take f.toNat) (@List.replicate Bool o.sects.length false) ∧ o.sects = o.sects ∧ o.syms = o.syms ∧ (0 ≤ f ∧ f ≤ LN o.syms) ∧ o.syms.length - f.toNat < o.syms.length - b.toNat))) ∧ (decide (0 ≤ c.wher) = false →
 i64 (b + 1) ∧ (∃ (g : Int), b + 1 = g ∧ o.syms = o.syms ∧ LN o.syms = LN o.syms ∧ names = names ∧ qN names (o.syms.take b.toNat) (@List.replicate Bool o.sects.length false) = qN names (o.syms.take g.toNat) (@List.replicate Bool o.sects.length false) ∧ o.sects = o.sects ∧ o.syms = o.syms ∧ (0 ≤ g ∧ g ≤ LN o.syms) ∧ o.syms.length - g.toNat < o.syms.length - b.toNat))) ∧ (decide (c.bind ≠ 0) = false →
 i64 (b + 1) ∧ (∃ (h : Int), b + 1 = h ∧ o.syms = o.syms ∧ LN o.syms = LN o.syms ∧ names = names ∧ qN names (o.syms.take b.toNat) (@List.replicate Bool o.sects.length false) = qN names (o.syms.take h.toNat) (@List.replicate Bool o.sects.length false) ∧ o.sects = o.sects ∧ o.syms = o.syms ∧ (0 ≤ h ∧ h ≤ LN o.syms) ∧ o.syms.length - h.toNat < o.syms.length - b.toNat)))) ∧ (decide (b < LN o.syms) = false →
 o.sects.length ≤ 9223372036854775807 →
 (∃ (i : Int), 0 = i ∧ LN o.sects = LN o.sects ∧ qN names (o.syms.take b.toNat) (@List.replicate Bool o.sects.length false) = qT o (r0 o names) i ∧ o.sects = o.sects ∧ o.syms = o.syms ∧ (0 ≤ i ∧ i ≤ LN o.sects) ∧ True) ∧ (∀ (j : Int), 0 ≤ j ∧ j ≤ LN o.sects →
 (decide (j < LN o.sects) = true →
 o.sects.length ≤ 9223372036854775807 →
 (∃ (k : Int), (∃ (l : Int), j = k ∧ 0 = l ∧ LN o.sects = LN o.sects ∧ LN o.sects = LN o.sects ∧ o.sects = o.sects ∧ qT o (r0 o names) j = qK o (qT o (r0 o names) k) l ∧ o.sects = o.sects ∧ o.syms = o.syms ∧ (0 ≤ k ∧ k < LN o.sects ∧ 0 ≤ l ∧ l ≤ LN o.sects) ∧ (∀ (m : Int), (∀ (n : Int), 0 ≤ m ∧ m < LN o.sects ∧ 0 ≤ n ∧ n ≤ LN o.sects →
 (o.sects.length - m.toNat) * 1000000 + (100 - n).toNat * 1000 ≤ (o.sects.length - k.toNat) * 1000000 + (100 - l).toNat * 1000 →
 (decide (n < LN o.sects) = true →
 (0 ≤ n ∧ n < LN o.sects) ∧ (∀ (p : Sect), o.sects[n.toNat]? = some p →
 Ok (Ty.st SN.sect) p →
 p.fixups.length ≤ 9223372036854775807 →
 (∃ (q : Int), (∃ (r : Int), (∃ (s : Int), m = q ∧ n = r ∧ 0 = s ∧ LN o.sects = LN o.sects ∧ LN o.sects = LN o.sects ∧ LN p.fixups = LN (fixO o r) ∧ o.sects = o.sects ∧ p.fixups = fixO o r ∧ n = r ∧ qK o (qT o (r0 o names) m) n = qJ o r (qK o (qT o (r0 o names) q) r) s ∧ o.sects = o.sects ∧ o.syms = o.syms ∧ (0 ≤ q ∧ q < LN o.sects ∧ 0 ≤ r ∧ r < LN o.sects ∧ (fixO o r).length ≤ 6 ∧ 0 ≤ s ∧ s ≤ LN (fixO o r)) ∧ (∀ (t : Int), (∀ (u : Int), (∀ (v : Int), 0 ≤ t ∧ t < LN o.sects ∧ 0 ≤ u ∧ u < LN o.sects ∧ (fixO o u).length ≤ 6 ∧ 0 ≤ v ∧ v ≤ LN (fixO o u) →
 (o.sects.length - t.toNat) * 1000000 + (100 - u).toNat * 1000 + (100 - v).toNat ≤ (o.sects.length - q.toNat) * 1000000 + (100 - r).toNat * 1000 + (100 - s).toNat →
 (decide (v < LN (fixO o u)) = true →
 (0 ≤ v ∧ v < LN (fixO o u)) ∧ (∀ (w : Fixup), (fixO o u)[v.toNat]? = some w →
 Ok (Ty.st SN.fixup) w →
 (0 ≤ w.to ∧ w.to < LN o.syms) ∧ (∀ (x : Sym), o.syms[w.to.toNat]? = some x →
 Ok (Ty.st SN.sym) x →
 (0 ≤ u ∧ u < LN (qJ o u (qK o (qT o (r0 o names) t) u) v)) ∧ (∀ (y : Bool), (qJ o u (qK o (qT o (r0 o names) t) u) v)[u.toNat]? = some y →
 Ok Ty.bool y →
 (y = true →
 (decide (0 ≤ x.wher) = true →
 (0 ≤ x.wher ∧ x.wher < LN (qJ o u (qK o (qT o (r0 o names) t) u) v)) ∧ (∀ (z : Bool), (qJ o u (qK o (qT o (r0 o names) t) u) v)[x.wher.toNat]? = some z →
 i64 (v + 1) ∧ (∃ (A : Int), (∃ (B : Int), (∃ (C : Int), t = A ∧ u = B ∧ v + 1 = C ∧ LN o.sects = LN o.sects ∧ LN o.sects = LN o.sects ∧ LN (fixO o u) = LN (fixO o B) ∧ o.sects = o.sects ∧ fixO o u = fixO o B ∧ u = B ∧ (qJ o u (qK o (qT o (r0 o names) t) u) v).set x.wher.toNat true = qJ o B (qK o (qT o (r0 o names) A) B) C ∧ o.sects = o.sects ∧ o.syms = o.syms ∧ (0 ≤ A ∧ A < LN o.sects ∧ 0 ≤ B ∧ B < LN o.sects ∧ (fixO o B).length ≤ 6 ∧ 0 ≤ C ∧ C ≤ LN (fixO o B)) ∧ (o.sects.length - A.toNat) * 1000000 + (100 - B).toNat * 1000 + (100 - C).toNat < (o.sects.length - t.toNat) * 1000000 + (100 - u).toNat * 1000 + (100 - v).toNat))))) ∧ (decide (0 ≤ x.wher) = false →
 i64 (v + 1) ∧ (∃ (D : Int), (∃ (E : Int), (∃ (F : Int), t = D ∧ u = E ∧ v + 1 = F ∧ LN o.sects = LN o.sects ∧ LN o.sects = LN o.sects ∧ LN (fixO o u) = LN (fixO o E) ∧ o.sects = o.sects ∧ fixO o u = fixO o E ∧ u = E ∧ qJ o u (qK o (qT o (r0 o names) t) u) v = qJ o E (qK o (qT o (r0 o names) D) E) F ∧ o.sects = o.sects ∧ o.syms = o.syms ∧ (0 ≤ D ∧ D < LN o.sects ∧ 0 ≤ E ∧ E < LN o.sects ∧ (fixO o E).length ≤ 6 ∧ 0 ≤ F ∧ F ≤ LN (fixO o E)) ∧ (o.sects.length - D.toNat) * 1000000 + (100 - E).toNat * 1000 + (100 - F).toNat < (o.sects.length - t.toNat) * 1000000 + (100 - u).toNat * 1000 + (100 - v).toNat))))) ∧ (y = false →
 i64 (v + 1) ∧ (∃ (G : Int), (∃ (H : Int), (∃ (I : Int), t = G ∧ u = H ∧ v + 1 = I ∧ LN o.sects = LN o.sects ∧ LN o.sects = LN o.sects ∧ LN (fixO o u) = LN (fixO o H) ∧ o.sects = o.sects ∧ fixO o u = fixO o H ∧ u = H ∧ qJ o u (qK o (qT o (r0 o names) t) u) v = qJ o H (qK o (qT o (r0 o names) G) H) I ∧ o.sects = o.sects ∧ o.syms = o.syms ∧ (0 ≤ G ∧ G < LN o.sects ∧ 0 ≤ H ∧ H < LN o.sects ∧ (fixO o H).length ≤ 6 ∧ 0 ≤ I ∧ I ≤ LN (fixO o H)) ∧ (o.sects.length - G.toNat) * 1000000 + (100 - H).toNat * 1000 + (100 - I).toNat < (o.sects.length - t.toNat) * 1000000 + (100 - u).toNat * 1000 + (100 - v).toNat)))))))) ∧ (decide (v < LN (fixO o u)) = false →
 i64 (u + 1) ∧ (∃ (J : Int), (∃ (K : Int), t = J ∧ u + 1 = K ∧ LN o.sects = LN o.sects ∧ LN o.sects = LN o.sects ∧ o.sects = o.sects ∧ qJ o u (qK o (qT o (r0 o names) t) u) v = qK o (qT o (r0 o names) J) K ∧ o.sects = o.sects ∧ o.syms = o.syms ∧ (0 ≤ J ∧ J < LN o.sects ∧ 0 ≤ K ∧ K ≤ LN o.sects) ∧ (o.sects.length - J.toNat) * 1000000 + (100 - K).toNat * 1000 < (o.sects.length - m.toNat) * 1000000 + (100 - n).toNat * 1000))))))))))) ∧ (decide (n < LN o.sects) = false →
 i64 (m + 1) ∧ (∃ (L : Int), m + 1 = L ∧ LN o.sects = LN o.sects ∧ qK o (qT o (r0 o names) m) n = qT o (r0 o names) L ∧ o.sects = o.sects ∧ o.syms = o.syms ∧ (0 ≤ L ∧ L ≤ LN o.sects) ∧ o.sects.length - L.toNat < o.sects.length - j.toNat))))))) ∧ (decide (j < LN o.sects) = false →
 qT o (r0 o names) j = rchB o names ∧ True)))))) := by kernel_rfl
theorem det_impl_Object_reached : C_impl_Object_reached.det = true → ∀ x, (C_impl_Object_reached.out x).Det := fun _ x => by simp only [C_impl_Object_reached]; repeat (first | exact Det.ret _ | exact Det.vc' | apply Det.req)
theorem ok_impl_Object_reached : ConOK Try.prog 40 C_impl_Object_reached := by
 refine con_q (l := L_impl_Object_reached) ⟨⟨ok_slices_Contains_string_string, det_slices_Contains_string_string⟩, trivial⟩ Try.func40 rfl (by decide) (by kernel_rfl) rfl an_impl_Object_reached fun x ho hx => ?_
 obtain ⟨o, names, ⟨⟩⟩ := x
 refine Keeps.of (vc_impl_Object_reached o names) ?_
 revert o names ho hx
 show ∀ (o : Objt) (names : List (ByteArray)), _
 intro o names ho hx
 dsimp only [C_impl_Object_reached, okPTL, okPT, Ok, Ty.cells, SN.cells, OkL, OkC, okI, ci, cb, cs, cl] at ho
 dsimp only [C_impl_Object_reached, vc, v1, decB, SR.pre] at hx
 have ho3 := hx.1
 have hl3 := objB_lens hx.1
 (try delta i64 LN); simp only [VBt]; (repeat' first | intro _ | apply And.intro); all_goals (try omega)
 all_goals first | omega | rfl | assumption | exact RB_0 | exact RB_1 (by assumption) (by assumption) | exact RB_1m (by assumption) (by assumption) | exact RB_w (by assumption) (by assumption) | exact RB_y (by assumption) (by assumption) (by assumption) (by assumption) (by assumption) | exact RB_n1 (by assumption) (by assumption) (by assumption) | exact RB_n2 (by assumption) (by assumption) (by assumption) | exact RB_n3 (by assumption) (by assumption) (by assumption) | exact RB_n4 (by assumption) (by assumption) (by assumption) | exact qN_end (by assumption) | exact fixO_6 (by assumption) | exact fixO_eq (by assumption) | exact (fixO_eq (by assumption)).symm | exact fixO_l (by assumption) | exact (RF_to (by assumption) (by assumption)).1 | exact (RF_to (by assumption) (by assumption)).2 | exact RQ_k (by assumption) | exact RQ_w (by assumption) (by assumption) | exact RQ_y (by assumption) (by assumption) (by assumption) (by assumption) (by assumption) (by assumption) | exact RQ_n (by assumption) (by assumption) (by assumption) (by assumption) | exact RQ_f (by assumption) (by assumption) (by assumption) (by assumption) | exact RQ_d (by assumption) (by assumption) | exact RQ_o (by assumption) (by assumption) (by assumption) (by assumption) | exact RQ_t (by assumption) (by assumption) (by assumption) | exact RQ_e (by assumption) (by assumption) | exact RT_y (by assumption) (by assumption) (by assumption) | exact RT_n (by assumption) (by assumption) (by assumption) | exact RT_e (by assumption) (by assumption) | exact RT_b1 (by assumption) | exact RT_b2 (by assumption) | exact (rch_no (by assumption)).symm | skip
def C_impl_ReachSections : Con := { ps := [.ro (.st .obj), .ro (.list .str)], out := fun x => let o : Objt := x.1; let names : List (ByteArray) := x.2.1; newL .i (rch o names), det := true }
abbrev L_impl_ReachSections : List (Nat × Con) := [(10, C_impl_ObjectValid), (40, C_impl_Object_reached)]
def G_impl_ReachSections : Cfg := GK L_impl_ReachSections
def an_impl_ReachSections : PTL C_impl_ReachSections.ps → Nat → Option Ann := fun x kk_ => let o : Objt := x.1; let names : List (ByteArray) := x.2.1; if kk_ = 5 then some (.all (Int) fun i => .giv (objB o = true ∧ 0 ≤ i ∧ i ≤ (rchB o names).length) (.mk [(17, ai i), (15, al .bool (rchB o names)), (16, ai (rchB o names).length), (5, asl 20)] [(20, .row (some 3) .i (tru ((rchB o names).take i.toNat) 0) true)] (((rchB o names).length - i.toNat)))) else none
theorem vc_impl_ReachSections (o : Objt) (names : List (ByteArray)) : (KP Try.f13 G_impl_ReachSections C_impl_ReachSections an_impl_ReachSections (o, names, ())) = ((Bool.not (objB o) = true →
 ([] : List Int) = rch o names ∧ True) ∧ (Bool.not (objB o) = false →
 objB o = true ∧ ((rchB o names).length ≤ 9223372036854775807 →
 (∃ (a : Int), 0 = a ∧ rchB o names = rchB o names ∧ LN (rchB o names) = LN (rchB o names) ∧ ([] : List Int) = tru ((rchB o names).take a.toNat) 0 ∧ (objB o = true ∧ 0 ≤ a ∧ a ≤ LN (rchB o names)) ∧ True) ∧ (∀ (b : Int), objB o = true ∧ 0 ≤ b ∧ b ≤ LN (rchB o names) →
 (decide (b < LN (rchB o names)) = true →
 (0 ≤ b ∧ b < LN (rchB o names)) ∧ (∀ (c : Bool), (rchB o names)[b.toNat]? = some c →
 Ok Ty.bool c →
 (c = true →
 (((tru ((rchB o names).take b.toNat) 0).length + [b].length) * 8 ≤ 140737488355328 ∧ (tru ((rchB o names).take b.toNat) 0).length + [b].length ≤ 1000000000000) ∧ i64 (b + 1) ∧ (∃ (d : Int), b + 1 = d ∧ rchB o names = rchB o names ∧ LN (rchB o names) = LN (rchB o names) ∧ tru ((rchB o names).take b.toNat) 0 ++ [b] = tru ((rchB o names).take d.toNat) 0 ∧ (objB o = true ∧ 0 ≤ d ∧ d ≤ LN (rchB o names)) ∧ (rchB o names).length - d.toNat < (rchB o names).length - b.toNat)) ∧ (c = false →
 i64 (b + 1) ∧ (∃ (e : Int), b + 1 = e ∧ rchB o names = rchB o names ∧ LN (rchB o names) = LN (rchB o names) ∧ tru ((rchB o names).take b.toNat) 0 = tru ((rchB o names).take e.toNat) 0 ∧ (objB o = true ∧ 0 ≤ e ∧ e ≤ LN (rchB o names)) ∧ (rchB o names).length - e.toNat < (rchB o names).length - b.toNat)))) ∧ (decide (b < LN (rchB o names)) = false →
 tru ((rchB o names).take b.toNat) 0 = rch o names ∧ True))))) := by kernel_rfl
theorem det_impl_ReachSections : C_impl_ReachSections.det = true → ∀ x, (C_impl_ReachSections.out x).Det := fun _ _ => Det.ret _
theorem ok_impl_ReachSections : ConOK Try.prog 13 C_impl_ReachSections := by
 refine con_q (l := L_impl_ReachSections) ⟨⟨ok_impl_ObjectValid, det_impl_ObjectValid⟩, ⟨⟨ok_impl_Object_reached, det_impl_Object_reached⟩, trivial⟩⟩ Try.func13 rfl (by decide) (by kernel_rfl) rfl an_impl_ReachSections fun x ho hx => ?_
 obtain ⟨o, names, ⟨⟩⟩ := x
 refine Keeps.of (vc_impl_ReachSections o names) ?_
 revert o names ho hx
 show ∀ (o : Objt) (names : List (ByteArray)), _
 intro o names ho hx
 dsimp only [C_impl_ReachSections, okPTL, okPT, Ok, Ty.cells, SN.cells, OkL, OkC, okI, ci, cb, cs, cl] at ho
 dsimp only [C_impl_ReachSections, vc, v1, decB, SR.pre] at hx
 (try delta i64 LN); simp only [VBt]; (repeat' first | intro _ | apply And.intro); all_goals (try omega)
 all_goals first | omega | rfl | assumption | exact RB_0 | exact RB_1 (by assumption) (by assumption) | exact RB_1m (by assumption) (by assumption) | exact RB_w (by assumption) (by assumption) | exact RB_y (by assumption) (by assumption) (by assumption) (by assumption) (by assumption) | exact RB_n1 (by assumption) (by assumption) (by assumption) | exact RB_n2 (by assumption) (by assumption) (by assumption) | exact RB_n3 (by assumption) (by assumption) (by assumption) | exact RB_n4 (by assumption) (by assumption) (by assumption) | exact qN_end (by assumption) | exact fixO_6 (by assumption) | exact fixO_eq (by assumption) | exact (fixO_eq (by assumption)).symm | exact fixO_l (by assumption) | exact (RF_to (by assumption) (by assumption)).1 | exact (RF_to (by assumption) (by assumption)).2 | exact RQ_k (by assumption) | exact RQ_w (by assumption) (by assumption) | exact RQ_y (by assumption) (by assumption) (by assumption) (by assumption) (by assumption) (by assumption) | exact RQ_n (by assumption) (by assumption) (by assumption) (by assumption) | exact RQ_f (by assumption) (by assumption) (by assumption) (by assumption) | exact RQ_d (by assumption) (by assumption) | exact RQ_o (by assumption) (by assumption) (by assumption) (by assumption) | exact RQ_t (by assumption) (by assumption) (by assumption) | exact RQ_e (by assumption) (by assumption) | exact RT_y (by assumption) (by assumption) (by assumption) | exact RT_n (by assumption) (by assumption) (by assumption) | exact RT_e (by assumption) (by assumption) | exact RT_b1 (by assumption) | exact RT_b2 (by assumption) | exact (rch_no (by assumption)).symm | skip
def symK (l : List Sym) (k : Int) : Sym := (l[k.toNat]?).getD ⟨⟨⟨[]⟩⟩, 0, 0, 0⟩
theorem RF_2 {o : Objt} {k j : Int} {f : Fixup} {s : Sect} (hf : s.fixups[j.toNat]? = some f) (hs : o.sects[k.toNat]? = some s) (ho : objB o = true) : 0 ≤ f.to ∧ f.to < o.syms.length := fix_in ho hs hf
theorem RQ_y2 {o : Objt} {k j : Int} {b : List Bool} {f : Fixup} {s : Sym} {x : Sect} {a : Bool} (hb : (qJ o k b j)[k.toNat]? = some a) (ha : a = true) (hw : 0 ≤ s.wher) (hs : o.syms[f.to.toNat]? = some s) (h : x.fixups[j.toNat]? = some f) (hx : o.sects[k.toNat]? = some x) (hj : 0 ≤ j) : (qJ o k b j).set s.wher.toNat true = qJ o k b (j + 1) := RQ_y hb ha hw hs (RF_at h hx) hj
theorem RQ_n2 {o : Objt} {k j : Int} {b : List Bool} {f : Fixup} {s : Sym} {x : Sect} (hw : s.wher < 0) (hs : o.syms[f.to.toNat]? = some s) (h : x.fixups[j.toNat]? = some f) (hx : o.sects[k.toNat]? = some x) (hj : 0 ≤ j) : qJ o k b j = qJ o k b (j + 1) := RQ_n hw hs (RF_at h hx) hj
theorem RQ_d2 {o : Objt} {k j : Int} {b : List Bool} {x : Sect} (h : (x.fixups.length : Int) ≤ j) (hx : o.sects[k.toNat]? = some x) (hk : 0 ≤ k) : qJ o k (qK o b k) j = qK o b (k + 1) := qK_done hk (by rw [fixO_eq hx]; exact h)
theorem RQ_j2 {o : Objt} {k j : Int} {x : Sect} (h : j < (x.fixups.length : Int)) (hx : o.sects[k.toNat]? = some x) : j + 1 ≤ (fixO o k).length := by rw [fixO_eq hx]; omega
theorem RM_y {n : List ByteArray} {b : List Bool} {s t u w : Sym} {j : Int} {x : ByteArray} {l : List Sym} {k : Int} (hu : l[k.toNat]? = some u) (hx : n[j.toNat]? = some x) (h : s.name = x) (hs : l[k.toNat]? = some s) (h1 : t.bind ≠ 0) (ht : l[k.toNat]? = some t) (h2 : 0 ≤ w.wher) (hw : l[k.toNat]? = some w) (hj : 0 ≤ j) : (qM n b (symK l k) j).set u.wher.toNat true = qM n b (symK l k) (j + 1) := by
 have e1 : t = s := Option.some.inj (ht.symm.trans hs)
 have e2 : u = s := Option.some.inj (hu.symm.trans hs)
 have e4 : w = s := Option.some.inj (hw.symm.trans hs)
 have e3 : symK l k = s := by simp [symK, hs]
 subst e1; subst e2; subst e4
 rw [e3]
 exact qM_yes hj hx h h1 h2
theorem RM_n4 {n : List ByteArray} {b : List Bool} {s : Sym} {j : Int} {x : ByteArray} {l : List Sym} {k : Int} (h : ¬ s.bind ≠ 0) (hx : n[j.toNat]? = some x) (hs : l[k.toNat]? = some s) (hj : 0 ≤ j) : qM n b (symK l k) j = qM n b (symK l k) (j + 1) := by
 rw [show symK l k = s by simp [symK, hs]]; exact qM_no hj hx (.inr (.inl (Classical.not_not.1 h)))
theorem RM_w {l : List Sym} {k : Int} {s u : Sym} (hu : l[k.toNat]? = some u) (h : 0 ≤ s.wher) (hs : l[k.toNat]? = some s) : 0 ≤ u.wher := by
 have e2 : u = s := Option.some.inj (hu.symm.trans hs)
 rw [e2]; exact h
theorem RM_f {l : List Sect} {k j : Int} {s u : Sect} (hu : l[k.toNat]? = some u) (h : j < (s.fixups.length : Int)) (hs : l[k.toNat]? = some s) : j < (u.fixups.length : Int) := by
 have e2 : u = s := Option.some.inj (hu.symm.trans hs)
 rw [e2]; exact h
theorem RM_m {S n : Nat} {e b f : Int} (h : (S - e.toNat) * (n + 1) + (n - f.toNat) ≤ (S - b.toNat) * (n + 1) + (n - Int.toNat 0)) (he : 0 ≤ e) (hl : e < S) : S - (e + 1).toNat < S - b.toNat := by
 have := lex_le h (by omega)
 omega
theorem RM_n1 {n : List ByteArray} {b : List Bool} {s : Sym} {j : Int} {x : ByteArray} {l : List Sym} {k : Int} (h : ¬ s.name = x) (hx : n[j.toNat]? = some x) (hs : l[k.toNat]? = some s) (hj : 0 ≤ j) : qM n b (symK l k) j = qM n b (symK l k) (j + 1) := by
 rw [show symK l k = s by simp [symK, hs]]; exact qM_no hj hx (.inl h)
theorem RM_n2 {n : List ByteArray} {b : List Bool} {s : Sym} {j : Int} {x : ByteArray} {l : List Sym} {k : Int} (h : s.bind = 0) (hx : n[j.toNat]? = some x) (hs : l[k.toNat]? = some s) (hj : 0 ≤ j) : qM n b (symK l k) j = qM n b (symK l k) (j + 1) := by
 rw [show symK l k = s by simp [symK, hs]]; exact qM_no hj hx (.inr (.inl h))
theorem RM_n3 {n : List ByteArray} {b : List Bool} {s : Sym} {j : Int} {x : ByteArray} {l : List Sym} {k : Int} (h : s.wher < 0) (hx : n[j.toNat]? = some x) (hs : l[k.toNat]? = some s) (hj : 0 ≤ j) : qM n b (symK l k) j = qM n b (symK l k) (j + 1) := by
 rw [show symK l k = s by simp [symK, hs]]; exact qM_no hj hx (.inr (.inr h))
theorem RM_d {n : List ByteArray} {l : List Sym} {b : List Bool} {k j : Int} (hj : (n.length : Int) ≤ j) (hk : 0 ≤ k) (h : k < l.length) : qM n (qN n (l.take k.toNat) b) (symK l k) j = qN n (l.take (k + 1).toNat) b := by
 obtain ⟨s, hs⟩ := some_of_lt hk h
 rw [show symK l k = s by simp [symK, hs]]
 exact qM_done hk hs hj
theorem RM_0 {n : List ByteArray} {b : List Bool} {s : Sym} : b = qM n b s 0 := qM_0
def C_spec_ReachSections : Con := { ps := [.ro (.st .obj), .ro (.list .str)], out := fun x => let o : Objt := x.1; let names : List (ByteArray) := x.2.1; newL .i (rch o names), det := true }
abbrev L_spec_ReachSections : List (Nat × Con) := [(30, C_spec_ObjectValid)]
def G_spec_ReachSections : Cfg := GK L_spec_ReachSections
def an_spec_ReachSections : PTL C_spec_ReachSections.ps → Nat → Option Ann := fun x kk_ => let o : Objt := x.1; let names : List (ByteArray) := x.2.1; if kk_ = 6 then some (.all (Int) fun k => .giv (objB o = true ∧ 0 ≤ k ∧ k ≤ o.syms.length ∧ o.sects.length ≤ 8 ∧ o.syms.length ≤ 12) (.mk [(7, ai k), (5, asl 21), (6, asl 20), (1, al .str names), (2, aref 62)] [(20, .row (some 4) .bool (qN names (o.syms.take k.toNat) (List.replicate o.sects.length false)) true), (21, .row (some 3) .i [] true), (62, bx (ast .obj o))] ((o.syms.length - k.toNat)))) else if kk_ = 2009 then some (.all (Int) fun k => .all (Int) fun j => .giv (objB o = true ∧ 0 ≤ k ∧ k < o.syms.length ∧ o.sects.length ≤ 8 ∧ o.syms.length ≤ 12 ∧ 0 ≤ j ∧ j ≤ names.length) (.mk [(7, ai k), (8, ai j), (5, asl 21), (6, asl 20), (1, al .str names), (2, aref 62)] [(20, .row (some 4) .bool (qM names (qN names (o.syms.take k.toNat) (List.replicate o.sects.length false)) (symK o.syms k) j) true), (21, .row (some 3) .i [] true), (62, bx (ast .obj o))] ((o.syms.length - k.toNat) * (names.length + 1) + (names.length - j.toNat)))) else if kk_ = 14 then some (.all (Int) fun t => .giv (objB o = true ∧ o.sects.length ≤ 8 ∧ o.syms.length ≤ 12 ∧ 0 ≤ t ∧ t ≤ o.sects.length) (.mk [(9, ai t), (5, asl 21), (6, asl 20), (2, aref 62)] [(20, .row (some 4) .bool (qT o (r0 o names) t) true), (21, .row (some 3) .i [] true), (62, bx (ast .obj o))] ((o.sects.length - t.toNat)))) else if kk_ = 2017 then some (.all (Int) fun t => .all (Int) fun k => .giv (objB o = true ∧ o.sects.length ≤ 8 ∧ o.syms.length ≤ 12 ∧ 0 ≤ t ∧ t < o.sects.length ∧ 0 ≤ k ∧ k ≤ o.sects.length) (.mk [(9, ai t), (10, ai k), (5, asl 21), (6, asl 20), (2, aref 62)] [(20, .row (some 4) .bool (qK o (qT o (r0 o names) t) k) true), (21, .row (some 3) .i [] true), (62, bx (ast .obj o))] ((o.sects.length - t.toNat) * 1000000 + (100 - k).toNat * 1000))) else if kk_ = 2020 then some (.all (Int) fun t => .all (Int) fun k => .all (Int) fun j => .giv (objB o = true ∧ o.sects.length ≤ 8 ∧ o.syms.length ≤ 12 ∧ 0 ≤ t ∧ t < o.sects.length ∧ 0 ≤ k ∧ k < o.sects.length ∧ (fixO o k).length ≤ 6 ∧ 0 ≤ j ∧ j ≤ (fixO o k).length) (.mk [(9, ai t), (10, ai k), (11, ai j), (5, asl 21), (6, asl 20), (2, aref 62)] [(20, .row (some 4) .bool (qJ o k (qK o (qT o (r0 o names) t) k) j) true), (21, .row (some 3) .i [] true), (62, bx (ast .obj o))] ((o.sects.length - t.toNat) * 1000000 + (100 - k).toNat * 1000 + (100 - j).toNat))) else if kk_ = 26 then some (.all (Int) fun i => .giv (objB o = true ∧ 0 ≤ i ∧ i ≤ (rchB o names).length) (.mk [(13, ai i), (5, asl 21), (6, al .bool (rchB o names))] [(21, .row (some 3) .i (tru ((rchB o names).take i.toNat) 0) true)] (((rchB o names).length - i.toNat)))) else none
theorem vc_spec_ReachSections (o : Objt) (names : List (ByteArray)) : (KP Try.f15 G_spec_ReachSections C_spec_ReachSections an_spec_ReachSections (o, names, ())) = ((Bool.not (objB o) = true →
 ([] : List Int) = rch o names ∧ True) ∧ (Bool.not (objB o) = false →
 o.sects.length ≤ 9223372036854775807 →
 (LN o.sects = LN o.sects ∧ 0 ≤ LN o.sects ∧ LN o.sects ≤ 1000000000000 ∧ @Nat.cast Int _ (1 : Nat) * LN o.sects ≤ 140737488355328) ∧ (∃ (a : Int), 0 = a ∧ names = names ∧ @repl Bool (LN o.sects) false = qN names (o.syms.take a.toNat) (@List.replicate Bool o.sects.length false) ∧ ([] : List Int) = ([] : List Int) ∧ o.sects = o.sects ∧ o.syms = o.syms ∧ (objB o = true ∧ 0 ≤ a ∧ a ≤ LN o.syms ∧ o.sects.length ≤ 8 ∧ o.syms.length ≤ 12) ∧ True) ∧ (∀ (b : Int), objB o = true ∧ 0 ≤ b ∧ b ≤ LN o.syms ∧ o.sects.length ≤ 8 ∧ o.syms.length ≤ 12 →
 o.syms.length ≤ 9223372036854775807 →
 (decide (b < LN o.syms) = true →
 (∃ (c : Int), (∃ (d : Int), b = c ∧ 0 = d ∧ names = names ∧ qN names (o.syms.take b.toNat) (@List.replicate Bool o.sects.length false) = qM names (qN names (o.syms.take c.toNat) (@List.replicate Bool o.sects.length false)) (symK o.syms c) d ∧ ([] : List Int) = ([] : List Int) ∧ o.sects = o.sects ∧ o.syms = o.syms ∧ (objB o = true ∧ 0 ≤ c ∧ c < LN o.syms ∧ o.sects.length ≤ 8 ∧ o.syms.length ≤ 12 ∧ 0 ≤ d ∧ d ≤ LN names) ∧ (∀ (e : Int), (∀ (f : Int), objB o = true ∧ 0 ≤ e ∧ e < LN o.syms ∧ o.sects.length ≤ 8 ∧ o.syms.length ≤ 12 ∧ 0 ≤ f ∧ f ≤ LN names →
 (o.syms.length - e.toNat) * (names.length + 1) + (names.length - f.toNat) ≤ (o.syms.length - c.toNat) * (names.length + 1) + (names.length - d.toNat) →
 names.length ≤ 9223372036854775807 →
 (decide (f < LN names) = true →
 (0 ≤ e ∧ e < LN o.syms) ∧ (∀ (g : Sym), o.syms[e.toNat]? = some g →
 Ok (Ty.st SN.sym) g →
 (0 ≤ f ∧ f < LN names) ∧ (∀ (h : ByteArray), names[f.toNat]? = some h →
 Ok Ty.str h →
 (decide (g.name = h) = true →
 (0 ≤ e ∧ e < LN o.syms) ∧ (∀ (i : Sym), o.syms[e.toNat]? = some i →
 Ok (Ty.st SN.sym) i →
 (decide (i.bind ≠ 0) = true →
 (0 ≤ e ∧ e < LN o.syms) ∧ (∀ (j : Sym), o.syms[e.toNat]? = some j →
 Ok (Ty.st SN.sym) j →
 (decide (0 ≤ j.wher) = true →
 (0 ≤ e ∧ e < LN o.syms) ∧ (∀ (k : Sym), o.syms[e.toNat]? = some k →
 Ok (Ty.st SN.sym) k →
 (0 ≤ k.wher ∧ k.wher < LN (qM names (qN names (o.syms.take e.toNat) (@List.replicate Bool o.sects.length false)) (symK o.syms e) f)) ∧ (∀ (l : Bool), (qM names (qN names (o.syms.take e.toNat) (@List.replicate Bool o.sects.length false)) (symK o.syms e) f)[k.wher.toNat]? = some l →
 i64 (f + 1) ∧ (∃ (m : Int), (∃ (n : Int), e = m ∧ f + 1 = n ∧ names = names ∧ (qM names (qN names (o.syms.take e.toNat) (@List.replicate Bool o.sects.length false)) (symK o.syms e) f).set k.wher.toNat true = qM names (qN names (o.syms.take m.toNat) (@List.replicate Bool o.sects.length false)) (symK o.syms m) n ∧ ([] : List Int) = ([] : List Int) ∧ o.sects = o.sects ∧ o.syms = o.syms ∧ (objB o = true ∧ 0 ≤ m ∧ m < LN o.syms ∧ o.sects.length ≤ 8 ∧ o.syms.length ≤ 12 ∧ 0 ≤ n ∧ n ≤ LN names) ∧ (o.syms.length - m.toNat) * (names.length + 1) + (names.length - n.toNat) < (o.syms.length - e.toNat) * (names.length + 1) + (names.length - f.toNat)))))) ∧ (decide (0 ≤ j.wher) = false →
 i64 (f + 1) ∧ (∃ (p : Int), (∃ (q : Int), e = p ∧ f + 1 = q ∧ names = names ∧ qM names (qN names (o.syms.take e.toNat) (@List.replicate Bool o.sects.length false)) (symK o.syms e) f = qM names (qN names (o.syms.take p.toNat) (@List.replicate Bool o.sects.length false)) (symK o.syms p) q ∧ ([] : List Int) = ([] : List Int) ∧ o.sects = o.sects ∧ o.syms = o.syms ∧ (objB o = true ∧ 0 ≤ p ∧ p < LN o.syms ∧ o.sects.length ≤ 8 ∧ o.syms.length ≤ 12 ∧ 0 ≤ q ∧ q ≤ LN names) ∧ (o.syms.length - p.toNat) * (names.length + 1) + (names.length - q.toNat) < (o.syms.length - e.toNat) * (names.length + 1) + (names.length - f.toNat)))))) ∧ (decide (i.bind ≠ 0) = false →
 i64 (f + 1) ∧ (∃ (r : Int), (∃ (s : Int), e = r ∧ f + 1 = s ∧ names = names ∧ qM names (qN names (o.syms.take e.toNat) (@List.replicate Bool o.sects.length false)) (symK o.syms e) f = qM names (qN names (o.syms.take r.toNat) (@List.replicate Bool o.sects.length false)) (symK o.syms r) s ∧ ([] : List Int) = ([] : List Int) ∧ o.sects = o.sects ∧ o.syms = o.syms ∧ (objB o = true ∧ 0 ≤ r ∧ r < LN o.syms ∧ o.sects.length ≤ 8 ∧ o.syms.length ≤ 12 ∧ 0 ≤ s ∧ s ≤ LN names) ∧ (o.syms.length - r.toNat) * (names.length + 1) + (names.length - s.toNat) < (o.syms.length - e.toNat) * (names.length + 1) + (names.length - f.toNat)))))) ∧ (decide (g.name = h) = false →
 i64 (f + 1) ∧ (∃ (t : Int), (∃ (u : Int), e = t ∧ f + 1 = u ∧ names = names ∧ qM names (qN names (o.syms.take e.toNat) (@List.replicate Bool o.sects.length false)) (symK o.syms e) f = qM names (qN names (o.syms.take t.toNat) (@List.replicate Bool o.sects.length false)) (symK o.syms t) u ∧ ([] : List Int) = ([] : List Int) ∧ o.sects = o.sects ∧ o.syms = o.syms ∧ (objB o = true ∧ 0 ≤ t ∧ t < LN o.syms ∧ o.sects.length ≤ 8 ∧ o.syms.length ≤ 12 ∧ 0 ≤ u ∧ u ≤ LN names) ∧ (o.syms.length - t.toNat) * (names.length + 1) + (names.length - u.toNat) < (o.syms.length - e.toNat) * (names.length + 1) + (names.length - f.toNat))))))) ∧ (decide (f < LN names) = false →
 i64 (e + 1) ∧ (∃ (v : Int), e + 1 = v ∧ names = names ∧ qM names (qN names (o.syms.take e.toNat) (@List.replicate Bool o.sects.length false)) (symK o.syms e) f = qN names (o.syms.take v.toNat) (@List.replicate Bool o.sects.length false) ∧ ([] : List Int) = ([] : List Int) ∧ o.sects = o.sects ∧ o.syms = o.syms ∧ (objB o = true ∧ 0 ≤ v ∧ v ≤ LN o.syms ∧ o.sects.length ≤ 8 ∧ o.syms.length ≤ 12) ∧ o.syms.length - v.toNat < o.syms.length - b.toNat))))))) ∧ (decide (b < LN o.syms) = false →
 (∃ (w : Int), 0 = w ∧ qN names (o.syms.take b.toNat) (@List.replicate Bool o.sects.length false) = qT o (r0 o names) w ∧ ([] : List Int) = ([] : List Int) ∧ o.sects = o.sects ∧ o.syms = o.syms ∧ (objB o = true ∧ o.sects.length ≤ 8 ∧ o.syms.length ≤ 12 ∧ 0 ≤ w ∧ w ≤ LN o.sects) ∧ True) ∧ (∀ (x : Int), objB o = true ∧ o.sects.length ≤ 8 ∧ o.syms.length ≤ 12 ∧ 0 ≤ x ∧ x ≤ LN o.sects →
 o.sects.length ≤ 9223372036854775807 →
 (decide (x < LN o.sects) = true →
 (∃ (y : Int), (∃ (z : Int), x = y ∧ 0 = z ∧ qT o (r0 o names) x = qK o (qT o (r0 o names) y) z ∧ ([] : List Int) = ([] : List Int) ∧ o.sects = o.sects ∧ o.syms = o.syms ∧ (objB o = true ∧ o.sects.length ≤ 8 ∧ o.syms.length ≤ 12 ∧ 0 ≤ y ∧ y < LN o.sects ∧ 0 ≤ z ∧ z ≤ LN o.sects) ∧ (∀ (A : Int), (∀ (B : Int), objB o = true ∧ o.sects.length ≤ 8 ∧ o.syms.length ≤ 12 ∧ 0 ≤ A ∧ A < LN o.sects ∧ 0 ≤ B ∧ B ≤ LN o.sects →
 (o.sects.length - A.toNat) * 1000000 + (100 - B).toNat * 1000 ≤ (o.sects.length - y.toNat) * 1000000 + (100 - z).toNat * 1000 →
 o.sects.length ≤ 9223372036854775807 →
 (decide (B < LN o.sects) = true →
 (∃ (C : Int), (∃ (D : Int), (∃ (E : Int), A = C ∧ B = D ∧ 0 = E ∧ qK o (qT o (r0 o names) A) B = qJ o D (qK o (qT o (r0 o names) C) D) E ∧ ([] : List Int) = ([] : List Int) ∧ o.sects = o.sects ∧ o.syms = o.syms ∧ (objB o = true ∧ o.sects.length ≤ 8 ∧ o.syms.length ≤ 12 ∧ 0 ≤ C ∧ C < LN o.sects ∧ 0 ≤ D ∧ D < LN o.sects ∧ (fixO o D).length ≤ 6 ∧ 0 ≤ E ∧ E ≤ LN (fixO o D)) ∧ (∀ (F : Int), (∀ (G : Int), (∀ (H : Int), objB o = true ∧ o.sects.length ≤ 8 ∧ o.syms.length ≤ 12 ∧ 0 ≤ F ∧ F < LN o.sects ∧ 0 ≤ G ∧ G < LN o.sects ∧ (fixO o G).length ≤ 6 ∧ 0 ≤ H ∧ H ≤ LN (fixO o G) →
 (o.sects.length - F.toNat) * 1000000 + (100 - G).toNat * 1000 + (100 - H).toNat ≤ (o.sects.length - C.toNat) * 1000000 + (100 - D).toNat * 1000 + (100 - E).toNat →
 (0 ≤ G ∧ G < LN o.sects) ∧ (∀ (I : Sect), o.sects[G.toNat]? = some I →
 Ok (Ty.st SN.sect) I →
 I.fixups.length ≤ 9223372036854775807 →
 (decide (H < LN I.fixups) = true →
 (0 ≤ G ∧ G < LN (qJ o G (qK o (qT o (r0 o names) F) G) H)) ∧ (∀ (J : Bool), (qJ o G (qK o (qT o (r0 o names) F) G) H)[G.toNat]? = some J →
 Ok Ty.bool J →
 (J = true →
 (0 ≤ G ∧ G < LN o.sects) ∧ (∀ (K : Sect), o.sects[G.toNat]? = some K →
 Ok (Ty.st SN.sect) K →
 (0 ≤ H ∧ H < LN K.fixups) ∧ (∀ (L : Fixup), K.fixups[H.toNat]? = some L →
 Ok (Ty.st SN.fixup) L →
 (0 ≤ L.to ∧ L.to < LN o.syms) ∧ (∀ (M : Sym), o.syms[L.to.toNat]? = some M →
 Ok (Ty.st SN.sym) M →
 (decide (0 ≤ M.wher) = true →
 (0 ≤ M.wher ∧ M.wher < LN (qJ o G (qK o (qT o (r0 o names) F) G) H)) ∧ (∀ (N : Bool), (qJ o G (qK o (qT o (r0 o names) F) G) H)[M.wher.toNat]? = some N →
 i64 (H + 1) ∧ (∃ (O : Int), (∃ (P : Int), (∃ (Q : Int), F = O ∧ G = P ∧ H + 1 = Q ∧ (qJ o G (qK o (qT o (r0 o names) F) G) H).set M.wher.toNat true = qJ o P (qK o (qT o (r0 o names) O) P) Q ∧ ([] : List Int) = ([] : List Int) ∧ o.sects = o.sects ∧ o.syms = o.syms ∧ (objB o = true ∧ o.sects.length ≤ 8 ∧ o.syms.length ≤ 12 ∧ 0 ≤ O ∧ O < LN o.sects ∧ 0 ≤ P ∧ P < LN o.sects ∧ (fixO o P).length ≤ 6 ∧ 0 ≤ Q ∧ Q ≤ LN (fixO o P)) ∧ (o.sects.length - O.toNat) * 1000000 + (100 - P).toNat * 1000 + (100 - Q).toNat < (o.sects.length - F.toNat) * 1000000 + (100 - G).toNat * 1000 + (100 - H).toNat))))) ∧ (decide (0 ≤ M.wher) = false →
 i64 (H + 1) ∧ (∃ (R : Int), (∃ (S : Int), (∃ (T : Int), F = R ∧ G = S ∧ H + 1 = T ∧ qJ o G (qK o (qT o (r0 o names) F) G) H = qJ o S (qK o (qT o (r0 o names) R) S) T ∧ ([] : List Int) = ([] : List Int) ∧ o.sects = o.sects ∧ o.syms = o.syms ∧ (objB o = true ∧ o.sects.length ≤ 8 ∧ o.syms.length ≤ 12 ∧ 0 ≤ R ∧ R < LN o.sects ∧ 0 ≤ S ∧ S < LN o.sects ∧ (fixO o S).length ≤ 6 ∧ 0 ≤ T ∧ T ≤ LN (fixO o S)) ∧ (o.sects.length - R.toNat) * 1000000 + (100 - S).toNat * 1000 + (100 - T).toNat < (o.sects.length - F.toNat) * 1000000 + (100 - G).toNat * 1000 + (100 - H).toNat)))))))) ∧ (J = false →
 i64 (G + 1) ∧ (∃ (U : Int), (∃ (V : Int), F = U ∧ G + 1 = V ∧ qJ o G (qK o (qT o (r0 o names) F) G) H = qK o (qT o (r0 o names) U) V ∧ ([] : List Int) = ([] : List Int) ∧ o.sects = o.sects ∧ o.syms = o.syms ∧ (objB o = true ∧ o.sects.length ≤ 8 ∧ o.syms.length ≤ 12 ∧ 0 ≤ U ∧ U < LN o.sects ∧ 0 ≤ V ∧ V ≤ LN o.sects) ∧ (o.sects.length - U.toNat) * 1000000 + (100 - V).toNat * 1000 < (o.sects.length - A.toNat) * 1000000 + (100 - B).toNat * 1000))))) ∧ (decide (H < LN I.fixups) = false →
 i64 (G + 1) ∧ (∃ (W : Int), (∃ (X : Int), F = W ∧ G + 1 = X ∧ qJ o G (qK o (qT o (r0 o names) F) G) H = qK o (qT o (r0 o names) W) X ∧ ([] : List Int) = ([] : List Int) ∧ o.sects = o.sects ∧ o.syms = o.syms ∧ (objB o = true ∧ o.sects.length ≤ 8 ∧ o.syms.length ≤ 12 ∧ 0 ≤ W ∧ W < LN o.sects ∧ 0 ≤ X ∧ X ≤ LN o.sects) ∧ (o.sects.length - W.toNat) * 1000000 + (100 - X).toNat * 1000 < (o.sects.length - A.toNat) * 1000000 + (100 - B).toNat * 1000))))))))))) ∧ (decide (B < LN o.sects) = false →
 i64 (A + 1) ∧ (∃ (Y : Int), A + 1 = Y ∧ qK o (qT o (r0 o names) A) B = qT o (r0 o names) Y ∧ ([] : List Int) = ([] : List Int) ∧ o.sects = o.sects ∧ o.syms = o.syms ∧ (objB o = true ∧ o.sects.length ≤ 8 ∧ o.syms.length ≤ 12 ∧ 0 ≤ Y ∧ Y ≤ LN o.sects) ∧ o.sects.length - Y.toNat < o.sects.length - x.toNat))))))) ∧ (decide (x < LN o.sects) = false →
 (∃ (Z : Int), 0 = Z ∧ qT o (r0 o names) x = rchB o names ∧ ([] : List Int) = tru ((rchB o names).take Z.toNat) 0 ∧ (objB o = true ∧ 0 ≤ Z ∧ Z ≤ LN (rchB o names)) ∧ True) ∧ (∀ (aa : Int), objB o = true ∧ 0 ≤ aa ∧ aa ≤ LN (rchB o names) →
 (rchB o names).length ≤ 9223372036854775807 →
 (decide (aa < LN (rchB o names)) = true →
 (0 ≤ aa ∧ aa < LN (rchB o names)) ∧ (∀ (ab : Bool), (rchB o names)[aa.toNat]? = some ab →
 Ok Ty.bool ab →
 (ab = true →
 (((tru ((rchB o names).take aa.toNat) 0).length + [aa].length) * 8 ≤ 140737488355328 ∧ (tru ((rchB o names).take aa.toNat) 0).length + [aa].length ≤ 1000000000000) ∧ i64 (aa + 1) ∧ (∃ (ac : Int), aa + 1 = ac ∧ rchB o names = rchB o names ∧ tru ((rchB o names).take aa.toNat) 0 ++ [aa] = tru ((rchB o names).take ac.toNat) 0 ∧ (objB o = true ∧ 0 ≤ ac ∧ ac ≤ LN (rchB o names)) ∧ (rchB o names).length - ac.toNat < (rchB o names).length - aa.toNat)) ∧ (ab = false →
 i64 (aa + 1) ∧ (∃ (ad : Int), aa + 1 = ad ∧ rchB o names = rchB o names ∧ tru ((rchB o names).take aa.toNat) 0 = tru ((rchB o names).take ad.toNat) 0 ∧ (objB o = true ∧ 0 ≤ ad ∧ ad ≤ LN (rchB o names)) ∧ (rchB o names).length - ad.toNat < (rchB o names).length - aa.toNat)))) ∧ (decide (aa < LN (rchB o names)) = false →
 tru ((rchB o names).take aa.toNat) 0 = rch o names ∧ True)))))))) := by kernel_rfl
theorem det_spec_ReachSections : C_spec_ReachSections.det = true → ∀ x, (C_spec_ReachSections.out x).Det := fun _ _ => Det.ret _
theorem ok_spec_ReachSections : ConOK Try.prog 15 C_spec_ReachSections := by
 refine con_q (l := L_spec_ReachSections) ⟨⟨ok_spec_ObjectValid, det_spec_ObjectValid⟩, trivial⟩ Try.func15 rfl (by decide) (by kernel_rfl) rfl an_spec_ReachSections fun x ho hx => ?_
 obtain ⟨o, names, ⟨⟩⟩ := x
 refine Keeps.of (vc_spec_ReachSections o names) ?_
 revert o names ho hx
 show ∀ (o : Objt) (names : List (ByteArray)), _
 intro o names ho hx
 dsimp only [C_spec_ReachSections, okPTL, okPT, Ok, Ty.cells, SN.cells, OkL, OkC, okI, ci, cb, cs, cl] at ho
 dsimp only [C_spec_ReachSections, vc, v1, decB, SR.pre] at hx
 have hl3 := @objB_lens o
 (try delta i64 LN); simp only [VBt]; (repeat' first | intro _ | apply And.intro); all_goals (try omega)
 all_goals first | omega | rfl | assumption | exact RB_0 | exact RB_1 (by assumption) (by assumption) | exact RB_1m (by assumption) (by assumption) | exact RB_w (by assumption) (by assumption) | (have := objB_lens (o := o) (by assumption); omega) | exact RM_y (by assumption) (by assumption) (by assumption) (by assumption) (by assumption) (by assumption) (by assumption) (by assumption) (by assumption) | exact RM_n4 (by assumption) (by assumption) (by assumption) (by assumption) | exact RM_w (by assumption) (by assumption) (by assumption) | exact RM_f (by assumption) (by assumption) (by assumption) | exact RM_m (by assumption) (by assumption) (by assumption) | exact RM_n1 (by assumption) (by assumption) (by assumption) (by assumption) | exact RM_n2 (by assumption) (by assumption) (by assumption) (by assumption) | exact RM_n3 (by assumption) (by assumption) (by assumption) (by assumption) | exact RM_d (by assumption) (by assumption) (by assumption) | exact RM_0 | exact qN_end (by assumption) | exact fixO_6 (by assumption) | exact (RF_2 (by assumption) (by assumption) (by assumption)).1 | exact (RF_2 (by assumption) (by assumption) (by assumption)).2 | exact RQ_k (by assumption) | exact RQ_w (by assumption) (by assumption) | exact RQ_y2 (by assumption) (by assumption) (by assumption) (by assumption) (by assumption) (by assumption) (by assumption) | exact RQ_n2 (by assumption) (by assumption) (by assumption) (by assumption) (by assumption) | exact RQ_d2 (by assumption) (by assumption) (by assumption) | exact RQ_j2 (by assumption) (by assumption) | exact RQ_o (by assumption) (by assumption) (by assumption) (by assumption) | exact RQ_t (by assumption) (by assumption) (by assumption) | exact RQ_e (by assumption) (by assumption) | exact RT_y (by assumption) (by assumption) (by assumption) | exact RT_n (by assumption) (by assumption) (by assumption) | exact RT_e (by assumption) (by assumption) | exact RT_b1 (by assumption) | exact RT_b2 (by assumption) | exact (rch_no (by assumption)).symm | skip
/-! What is kept. -/
def toIn (o : Objt) (f : Fixup) : Bool := decide (0 ≤ f.to ∧ f.to < (o.syms.length : Int))
def kOk (o : Objt) : Bool := decide (o.sects.length ≤ 8 ∧ o.syms.length ≤ 12) && o.sects.all fun s => decide (s.fixups.length ≤ 6) && s.fixups.all (toIn o)
theorem kOk_lens {o : Objt} (h : kOk o = true) : o.sects.length ≤ 8 ∧ o.syms.length ≤ 12 := by
 simp only [kOk, Bool.and_eq_true, decide_eq_true_eq] at h; exact h.1
theorem kOk_6 {o : Objt} {i : Nat} {s : Sect} (h : kOk o = true) (hs : o.sects[i]? = some s) : s.fixups.length ≤ 6 := by
 simp only [kOk, Bool.and_eq_true, decide_eq_true_eq, List.all_eq_true] at h
 exact (h.2 s (List.mem_of_getElem? hs)).1
theorem kOk_in {o : Objt} {i j : Nat} {s : Sect} {f : Fixup} (h : kOk o = true) (hs : o.sects[i]? = some s) (hf : s.fixups[j]? = some f) : 0 ≤ f.to ∧ f.to < o.syms.length := by
 simp only [kOk, Bool.and_eq_true, List.all_eq_true] at h
 exact of_decide_eq_true ((h.2 s (List.mem_of_getElem? hs)).2 f (List.mem_of_getElem? hf))
theorem midF_tok {o : Objt} {ns : List Int} {i j : Int} {x : Sect} {f : Fixup} (hf : x.fixups[j.toNat]? = some f) (hx : (midF ns o.sects i j)[i.toNat]? = some x) (ho : kOk o = true) (hi : 0 ≤ i) (h : i < o.sects.length) : 0 ≤ f.to ∧ f.to < o.syms.length := kOk_in ho (sAt_get hi h) (midF_fix hi h hx hf)
theorem midF_tnk {o : Objt} {ns : List Int} {i j : Int} {x : Sect} {f : Fixup} {p : List Bool} {k : Int} (hf : x.fixups[j.toNat]? = some f) (hx : (midF ns o.sects i j)[i.toNat]? = some x) (ho : kOk o = true) (hi : 0 ≤ i) (h : i < o.sects.length) (hp : p.length = o.syms.length) : f.to < (kpN p k).length := by
 rw [kpN_len, hp]; exact (midF_tok hf hx ho hi h).2
def C_impl_KeepSections_1 : Con := { ps := [.ro (.st .sym), .box (.ty (.list .i))], out := fun x => let s : Sym := x.1; let l : List (Int) := x.2.1; vc .bool (kqS l s), det := true }
abbrev L_impl_KeepSections_1 : List (Nat × Con) := [(42, C_slices_Contains_int_int)]
def G_impl_KeepSections_1 : Cfg := GK L_impl_KeepSections_1
def an_impl_KeepSections_1 : PTL C_impl_KeepSections_1.ps → Nat → Option Ann := fun _ _ => none
theorem vc_impl_KeepSections_1 (s : Sym) (l : List (Int)) : (KP Try.f41 G_impl_KeepSections_1 C_impl_KeepSections_1 an_impl_KeepSections_1 (s, l, ())) = ((decide (s.wher < 0) = true →
 true = kqS l s ∧ l = l ∧ True) ∧ (decide (s.wher < 0) = false →
 inI l s.wher = kqS l s ∧ l = l ∧ True)) := by kernel_rfl
theorem det_impl_KeepSections_1 : C_impl_KeepSections_1.det = true → ∀ x, (C_impl_KeepSections_1.out x).Det := fun _ _ => Det.vc'
theorem ok_impl_KeepSections_1 : ConOK Try.prog 41 C_impl_KeepSections_1 := by
 refine con_q (l := L_impl_KeepSections_1) ⟨⟨ok_slices_Contains_int_int, det_slices_Contains_int_int⟩, trivial⟩ Try.func41 rfl (by decide) (by kernel_rfl) rfl an_impl_KeepSections_1 fun x ho hx => ?_
 obtain ⟨s, l, ⟨⟩⟩ := x
 refine Keeps.of (vc_impl_KeepSections_1 s l) ?_
 revert s l ho hx
 show ∀ (s : Sym) (l : List (Int)), _
 intro s l ho hx
 dsimp only [C_impl_KeepSections_1, okPTL, okPT, Ok, Ty.cells, SN.cells, OkL, OkC, okI, ci, cb, cs, cl] at ho
 dsimp only [C_impl_KeepSections_1, vc, v1, decB, SR.pre] at hx
 (try delta i64 LN); simp only [VBt]; (repeat' first | intro _ | apply And.intro); all_goals (try omega); all_goals (try grind [kqS])
def C_impl_KeepSections_3 : Con := { ps := [.ro .i, .ro (.st .sym), .box (.fn 41 [.list .i])], out := fun x => let j : Int := x.1; let s : Sym := x.2.1; let k : (List (Int)) × (Unit) := x.2.2.1; vc .bool (kqS k.1 s), det := true }
abbrev L_impl_KeepSections_3 : List (Nat × Con) := [(41, C_impl_KeepSections_1)]
def G_impl_KeepSections_3 : Cfg := GK L_impl_KeepSections_3
def an_impl_KeepSections_3 : PTL C_impl_KeepSections_3.ps → Nat → Option Ann := fun _ _ => none
theorem vc_impl_KeepSections_3 (j : Int) (s : Sym) (k : (List (Int)) × (Unit)) : (KP Try.f47 G_impl_KeepSections_3 C_impl_KeepSections_3 an_impl_KeepSections_3 (j, s, k, ())) = (kqS k.fst s = kqS k.fst s ∧ k.fst = k.fst ∧ True) := by kernel_rfl
theorem det_impl_KeepSections_3 : C_impl_KeepSections_3.det = true → ∀ x, (C_impl_KeepSections_3.out x).Det := fun _ _ => Det.vc'
theorem ok_impl_KeepSections_3 : ConOK Try.prog 47 C_impl_KeepSections_3 := by
 refine con_q (l := L_impl_KeepSections_3) ⟨⟨ok_impl_KeepSections_1, det_impl_KeepSections_1⟩, trivial⟩ Try.func47 rfl (by decide) (by kernel_rfl) rfl an_impl_KeepSections_3 fun x ho hx => ?_
 obtain ⟨j, s, k, ⟨⟩⟩ := x
 refine Keeps.of (vc_impl_KeepSections_3 j s k) ?_
 revert j s k ho hx
 show ∀ (j : Int) (s : Sym) (k : (List (Int)) × (Unit)), _
 intro j s k ho hx
 dsimp only [C_impl_KeepSections_3, okPTL, okPT, Ok, Ty.cells, SN.cells, OkL, OkC, okI, ci, cb, cs, cl] at ho
 dsimp only [C_impl_KeepSections_3, vc, v1, decB, SR.pre] at hx
 (try delta i64 LN); simp only [VBt]; (repeat' first | intro _ | apply And.intro); all_goals (try omega); all_goals (try grind)
theorem kfx_at {o : Objt} {l : List Int} {f : Fixup} {s : Sym} (h : o.syms[f.to.toNat]? = some s) : kqS l s = kfx o l f := by simp [kfx, h]
def C_impl_KeepSections_2 : Con := { ps := [.ro (.st .fixup), .box (.fn 41 [.list .i]), .box (.ty (.st .obj))], out := fun x => let f : Fixup := x.1; let k : (List (Int)) × (Unit) := x.2.1; let o : Objt := x.2.2.1; .req (toIn o f = true) (vc .bool (!kfx o k.1 f)), det := true }
abbrev L_impl_KeepSections_2 : List (Nat × Con) := [(41, C_impl_KeepSections_1)]
def G_impl_KeepSections_2 : Cfg := GK L_impl_KeepSections_2
def an_impl_KeepSections_2 : PTL C_impl_KeepSections_2.ps → Nat → Option Ann := fun _ _ => none
theorem vc_impl_KeepSections_2 (f : Fixup) (k : (List (Int)) × (Unit)) (o : Objt) : (KP Try.f45 G_impl_KeepSections_2 C_impl_KeepSections_2 an_impl_KeepSections_2 (f, k, o, ())) = ((0 ≤ f.to ∧ f.to < LN o.syms) ∧ (∀ (a : Sym), o.syms[f.to.toNat]? = some a →
 Ok (Ty.st SN.sym) a →
 Bool.not (kqS k.fst a) = Bool.not (kfx o k.fst f) ∧ k.fst = k.fst ∧ o.sects = o.sects ∧ o.syms = o.syms ∧ True)) := by kernel_rfl
theorem det_impl_KeepSections_2 : C_impl_KeepSections_2.det = true → ∀ x, (C_impl_KeepSections_2.out x).Det := fun _ x => by simp only [C_impl_KeepSections_2]; repeat (first | exact Det.ret _ | exact Det.vc' | apply Det.req)
theorem ok_impl_KeepSections_2 : ConOK Try.prog 45 C_impl_KeepSections_2 := by
 refine con_q (l := L_impl_KeepSections_2) ⟨⟨ok_impl_KeepSections_1, det_impl_KeepSections_1⟩, trivial⟩ Try.func45 rfl (by decide) (by kernel_rfl) rfl an_impl_KeepSections_2 fun x ho hx => ?_
 obtain ⟨f, k, o, ⟨⟩⟩ := x
 refine Keeps.of (vc_impl_KeepSections_2 f k o) ?_
 revert f k o ho hx
 show ∀ (f : Fixup) (k : (List (Int)) × (Unit)) (o : Objt), _
 intro f k o ho hx
 dsimp only [C_impl_KeepSections_2, okPTL, okPT, Ok, Ty.cells, SN.cells, OkL, OkC, okI, ci, cb, cs, cl] at ho
 dsimp only [C_impl_KeepSections_2, vc, v1, decB, SR.pre] at hx
 have h3 : 0 ≤ f.to ∧ f.to < (o.syms.length : Int) := of_decide_eq_true hx.1
 (try delta i64 LN); simp only [VBt]; (repeat' first | intro _ | apply And.intro); all_goals (try omega); all_goals first | omega | (rw [kfx_at (by assumption)]; done) | (try grind [kfx])
def C_slices_IndexFunc_impl_Fixup_impl_Fixup_kee : Con := { ps := [.ro (.list (.st .fixup)), .fn 45 [.fn 41 [.list .i], .ty (.st .obj)]], out := fun x => let l : List (Fixup) := x.1; let g : ((List (Int)) × (Unit)) × (Objt) × (Unit) := x.2.1; .req (l.all (toIn g.2.1) = true) (vc .i (ixF (fun f => !kfx g.2.1 g.1.1 f) l 0)), det := true }
abbrev L_slices_IndexFunc_impl_Fixup_impl_Fixup_kee : List (Nat × Con) := [(45, C_impl_KeepSections_2)]
def G_slices_IndexFunc_impl_Fixup_impl_Fixup_kee : Cfg := GK L_slices_IndexFunc_impl_Fixup_impl_Fixup_kee
def an_slices_IndexFunc_impl_Fixup_impl_Fixup_kee : PTL C_slices_IndexFunc_impl_Fixup_impl_Fixup_kee.ps → Nat → Option Ann := fun x kk_ => let l : List (Fixup) := x.1; let g : ((List (Int)) × (Unit)) × (Objt) × (Unit) := x.2.1; if kk_ = 2 then some (.all (Int) fun i => .giv (0 ≤ i ∧ i ≤ l.length ∧ ixF (fun f : Fixup => !kfx g.2.1 g.1.1 f) l 0 = ixF (fun f : Fixup => !kfx g.2.1 g.1.1 f) (l.drop i.toNat) i) (.mk [(1, .one (.fn 45 [0, 2])), (8, ai i), (0, al (.st .fixup) l), (7, ai (List.length l))] [(0, .box true [.fn 41 [1]]), (1, lent (.list .i) g.1.1), (2, lent (.st .obj) g.2.1)] ((l.length - i.toNat)))) else none
theorem vc_slices_IndexFunc_impl_Fixup_impl_Fixup_kee (l : List (Fixup)) (g : ((List (Int)) × (Unit)) × (Objt) × (Unit)) : (KP Try.f89 G_slices_IndexFunc_impl_Fixup_impl_Fixup_kee C_slices_IndexFunc_impl_Fixup_impl_Fixup_kee an_slices_IndexFunc_impl_Fixup_impl_Fixup_kee (l, g, ())) = (l.length ≤ 9223372036854775807 →
 (∃ (a : Int), 0 = a ∧ l = l ∧ LN l = LN l ∧ g.fst.fst = g.fst.fst ∧ g.snd.fst.sects = g.snd.fst.sects ∧ g.snd.fst.syms = g.snd.fst.syms ∧ (0 ≤ a ∧ a ≤ LN l ∧ @ixF Fixup (fun (b : Fixup) => Bool.not (kfx g.snd.fst g.fst.fst b)) l (0 : Int) = @ixF Fixup (fun (c : Fixup) => Bool.not (kfx g.snd.fst g.fst.fst c)) (l.drop a.toNat) a) ∧ True) ∧ (∀ (d : Int), 0 ≤ d ∧ d ≤ LN l ∧ @ixF Fixup (fun (e : Fixup) => Bool.not (kfx g.snd.fst g.fst.fst e)) l (0 : Int) = @ixF Fixup (fun (f : Fixup) => Bool.not (kfx g.snd.fst g.fst.fst f)) (l.drop d.toNat) d →
 (decide (d < LN l) = true →
 (0 ≤ d ∧ d < LN l) ∧ (∀ (h : Fixup), l[d.toNat]? = some h →
 Ok (Ty.st SN.fixup) h →
 toIn g.snd.fst h = true ∧ (Bool.not (kfx g.snd.fst g.fst.fst h) = true →
 d = @ixF Fixup (fun (i : Fixup) => Bool.not (kfx g.snd.fst g.fst.fst i)) l (0 : Int) ∧ g.fst.fst = g.fst.fst ∧ g.snd.fst.sects = g.snd.fst.sects ∧ g.snd.fst.syms = g.snd.fst.syms ∧ True) ∧ (Bool.not (kfx g.snd.fst g.fst.fst h) = false →
 i64 (d + 1) ∧ (∃ (j : Int), d + 1 = j ∧ l = l ∧ LN l = LN l ∧ g.fst.fst = g.fst.fst ∧ g.snd.fst.sects = g.snd.fst.sects ∧ g.snd.fst.syms = g.snd.fst.syms ∧ (0 ≤ j ∧ j ≤ LN l ∧ @ixF Fixup (fun (k : Fixup) => Bool.not (kfx g.snd.fst g.fst.fst k)) l (0 : Int) = @ixF Fixup (fun (m : Fixup) => Bool.not (kfx g.snd.fst g.fst.fst m)) (l.drop j.toNat) j) ∧ l.length - j.toNat < l.length - d.toNat)))) ∧ (decide (d < LN l) = false →
 (- (1 : Int)) = @ixF Fixup (fun (n : Fixup) => Bool.not (kfx g.snd.fst g.fst.fst n)) l (0 : Int) ∧ g.fst.fst = g.fst.fst ∧ g.snd.fst.sects = g.snd.fst.sects ∧ g.snd.fst.syms = g.snd.fst.syms ∧ True))) := by kernel_rfl
theorem det_slices_IndexFunc_impl_Fixup_impl_Fixup_kee : C_slices_IndexFunc_impl_Fixup_impl_Fixup_kee.det = true → ∀ x, (C_slices_IndexFunc_impl_Fixup_impl_Fixup_kee.out x).Det := fun _ x => by simp only [C_slices_IndexFunc_impl_Fixup_impl_Fixup_kee]; repeat (first | exact Det.ret _ | exact Det.vc' | apply Det.req | apply Det.giv | apply Det.fork | apply Det.bif' | intro _)
theorem ok_slices_IndexFunc_impl_Fixup_impl_Fixup_kee : ConOK Try.prog 89 C_slices_IndexFunc_impl_Fixup_impl_Fixup_kee := by
 refine con_q (l := L_slices_IndexFunc_impl_Fixup_impl_Fixup_kee) ⟨⟨ok_impl_KeepSections_2, det_impl_KeepSections_2⟩, trivial⟩ Try.func89 rfl (by decide) (by kernel_rfl) rfl an_slices_IndexFunc_impl_Fixup_impl_Fixup_kee fun x ho hx => ?_
 obtain ⟨l, g, ⟨⟩⟩ := x
 refine Keeps.of (vc_slices_IndexFunc_impl_Fixup_impl_Fixup_kee l g) ?_
 revert l g ho hx
 show ∀ (l : List (Fixup)) (g : ((List (Int)) × (Unit)) × (Objt) × (Unit)), _
 intro l g ho hx
 dsimp only [C_slices_IndexFunc_impl_Fixup_impl_Fixup_kee, okPTL, okPT, Ok, Ty.cells, SN.cells, OkL, OkC, okI, ci, cb, cs, cl] at ho
 dsimp only [C_slices_IndexFunc_impl_Fixup_impl_Fixup_kee, vc, v1, decB, SR.pre] at hx
 have h3 := fun k x (h : l[k]? = some x) => List.all_eq_true.1 hx.1 x (List.mem_of_getElem? h)
 (try delta i64 LN); simp only [VBt]; (repeat' first | intro _ | apply And.intro); all_goals (try omega); all_goals (try have hdr := drop_get' (l := l) (by assumption) (by assumption)); all_goals (try grind [ixF, drop_end])
def C_slices_ContainsFunc_impl_Fixup_impl_Fixup_kee : Con := { ps := [.ro (.list (.st .fixup)), .fn 45 [.fn 41 [.list .i], .ty (.st .obj)]], out := fun x => let l : List (Fixup) := x.1; let g : ((List (Int)) × (Unit)) × (Objt) × (Unit) := x.2.1; .req (l.all (toIn g.2.1) = true) (vc .bool (l.any fun f => !kfx g.2.1 g.1.1 f)), det := true }
abbrev L_slices_ContainsFunc_impl_Fixup_impl_Fixup_kee : List (Nat × Con) := [(89, C_slices_IndexFunc_impl_Fixup_impl_Fixup_kee)]
def G_slices_ContainsFunc_impl_Fixup_impl_Fixup_kee : Cfg := GK L_slices_ContainsFunc_impl_Fixup_impl_Fixup_kee
def an_slices_ContainsFunc_impl_Fixup_impl_Fixup_kee : PTL C_slices_ContainsFunc_impl_Fixup_impl_Fixup_kee.ps → Nat → Option Ann := fun _ _ => none
theorem vc_slices_ContainsFunc_impl_Fixup_impl_Fixup_kee (l : List (Fixup)) (g : ((List (Int)) × (Unit)) × (Objt) × (Unit)) : (KP Try.f44 G_slices_ContainsFunc_impl_Fixup_impl_Fixup_kee C_slices_ContainsFunc_impl_Fixup_impl_Fixup_kee an_slices_ContainsFunc_impl_Fixup_impl_Fixup_kee (l, g, ())) = (@List.all Fixup l (toIn g.snd.fst) = true ∧ decide (0 ≤ @ixF Fixup (fun (a : Fixup) => Bool.not (kfx g.snd.fst g.fst.fst a)) l (0 : Int)) = @List.any Fixup l (fun (b : Fixup) => Bool.not (kfx g.snd.fst g.fst.fst b)) ∧ g.fst.fst = g.fst.fst ∧ g.snd.fst.sects = g.snd.fst.sects ∧ g.snd.fst.syms = g.snd.fst.syms ∧ True) := by kernel_rfl
theorem det_slices_ContainsFunc_impl_Fixup_impl_Fixup_kee : C_slices_ContainsFunc_impl_Fixup_impl_Fixup_kee.det = true → ∀ x, (C_slices_ContainsFunc_impl_Fixup_impl_Fixup_kee.out x).Det := fun _ x => by simp only [C_slices_ContainsFunc_impl_Fixup_impl_Fixup_kee]; repeat (first | exact Det.ret _ | exact Det.vc' | apply Det.req | apply Det.giv | apply Det.fork | apply Det.bif' | intro _)
theorem ok_slices_ContainsFunc_impl_Fixup_impl_Fixup_kee : ConOK Try.prog 44 C_slices_ContainsFunc_impl_Fixup_impl_Fixup_kee := by
 refine con_q (l := L_slices_ContainsFunc_impl_Fixup_impl_Fixup_kee) ⟨⟨ok_slices_IndexFunc_impl_Fixup_impl_Fixup_kee, det_slices_IndexFunc_impl_Fixup_impl_Fixup_kee⟩, trivial⟩ Try.func44 rfl (by decide) (by kernel_rfl) rfl an_slices_ContainsFunc_impl_Fixup_impl_Fixup_kee fun x ho hx => ?_
 obtain ⟨l, g, ⟨⟩⟩ := x
 refine Keeps.of (vc_slices_ContainsFunc_impl_Fixup_impl_Fixup_kee l g) ?_
 revert l g ho hx
 show ∀ (l : List (Fixup)) (g : ((List (Int)) × (Unit)) × (Objt) × (Unit)), _
 intro l g ho hx
 dsimp only [C_slices_ContainsFunc_impl_Fixup_impl_Fixup_kee, okPTL, okPT, Ok, Ty.cells, SN.cells, OkL, OkC, okI, ci, cb, cs, cl] at ho
 dsimp only [C_slices_ContainsFunc_impl_Fixup_impl_Fixup_kee, vc, v1, decB, SR.pre] at hx
 have h := ixF_anyB (p := fun f : Fixup => !kfx g.2.1 g.1.1 f) (l := l)
 (try delta i64 LN); simp only [VBt]; (repeat' first | intro _ | apply And.intro); all_goals (try omega); all_goals (try grind)
def C_impl_Object_keepSymbols_kee : Con := { ps := [.ro (.st .obj), .fn 47 [.fn 41 [.list .i]]], out := fun x => let o : Objt := x.1; let q : ((List (Int)) × (Unit)) × (Unit) := x.2.1; .req (szOb o ≤ 1000000 ∧ kOk o = true) (newS .obj ⟨o.sects.map (reS (kpN (kP o q.1.1) 0)), kpS (kP o q.1.1) o.syms⟩), det := true }
abbrev L_impl_Object_keepSymbols_kee : List (Nat × Con) := [(27, C_impl_copyObject), (47, C_impl_KeepSections_3)]
def G_impl_Object_keepSymbols_kee : Cfg := GK L_impl_Object_keepSymbols_kee
def an_impl_Object_keepSymbols_kee : PTL C_impl_Object_keepSymbols_kee.ps → Nat → Option Ann := fun x kk_ => let o : Objt := x.1; let q : ((List (Int)) × (Unit)) × (Unit) := x.2.1; let ps := bits (fun _ s => kqS q.1.1 s) o.syms 0; let ns := kpN ps 0; if kk_ = 4 then some (.all (Int) fun j => .giv (0 ≤ j ∧ j ≤ o.syms.length) (.mk [(1, .one (.fn 47 [0])), (22, ai j), (20, al (.st .sym) o.syms), (21, ai o.syms.length), (4, aref 30), (5, aref 31), (6, asl 34)] [(0, .box true [.fn 41 [1]]), (1, lent (.list .i) q.1.1), (30, .box false [.nil, .nil]), (31, .box false [.sl 32 [], .sl 33 []]), (32, .row none (.st .sect) o.sects true), (33, .row none (.st .sym) (kpS (ps.take j.toNat) o.syms) true), (34, .row (some 3) .i (ns.take j.toNat ++ List.replicate (o.syms.length - j.toNat) 0) true)] ((o.syms.length - j.toNat)))) else if kk_ = 11 then some (.all (Int) fun i => .giv (0 ≤ i ∧ i ≤ o.sects.length) (.mk [(47, ai i), (45, asl 32), (46, ai o.sects.length), (4, aref 30), (5, aref 31), (6, asl 34)] [(0, .box true [.fn 41 [1]]), (1, lent (.list .i) q.1.1), (30, .box false [.nil, .nil]), (31, .box false [.sl 32 [], .sl 33 []]), (32, .row none (.st .sect) (midS ns o.sects i) true), (33, .row none (.st .sym) (kpS ps o.syms) true), (34, .row (some 3) .i ns true)] ((o.sects.length - i.toNat)))) else if kk_ = 2014 then some (.all (Int) fun i => .all (Int) fun j => .giv (0 ≤ i ∧ i < o.sects.length ∧ (sAt o.sects i).fixups.length ≤ 6 ∧ 0 ≤ j ∧ j ≤ (sAt o.sects i).fixups.length) (.mk [(47, ai i), (54, ai j), (45, asl 32), (46, ai o.sects.length), (53, ai (sAt o.sects i).fixups.length), (4, aref 30), (5, aref 31), (6, asl 34), (10, aref 35)] [(0, .box true [.fn 41 [1]]), (1, lent (.list .i) q.1.1), (30, .box false [.nil, .nil]), (31, .box false [.sl 32 [], .sl 33 []]), (32, .row none (.st .sect) (midF ns o.sects i j) true), (33, .row none (.st .sym) (kpS ps o.syms) true), (34, .row (some 3) .i ns true), (35, .box false [.c (cs (sAt o.sects i).name), .c (ci (sAt o.sects i).kind), .c (ci (sAt o.sects i).align), .sl 32 [(i.toNat, 3)], .c (ci (sAt o.sects i).size), .sl 32 [(i.toNat, 5)]])] ((o.sects.length - i.toNat) * 1000 + (100 - j).toNat))) else none
theorem vc_impl_Object_keepSymbols_kee (o : Objt) (q : ((List (Int)) × (Unit)) × (Unit)) : (KP Try.f46 G_impl_Object_keepSymbols_kee C_impl_Object_keepSymbols_kee an_impl_Object_keepSymbols_kee (o, q, ())) = (szOb o ≤ 1048576 ∧ (o.syms.length ≤ 9223372036854775807 →
 (LN o.syms = LN o.syms ∧ 0 ≤ LN o.syms ∧ LN o.syms ≤ 1000000000000 ∧ @Nat.cast Int _ (8 : Nat) * LN o.syms ≤ 140737488355328) ∧ (o.syms.length ≤ 9223372036854775807 →
 (∃ (a : Int), 0 = a ∧ o.syms = o.syms ∧ LN o.syms = LN o.syms ∧ q.fst.fst = q.fst.fst ∧ o.sects = o.sects ∧ ([] : List Sym) = kpS ((bits (fun (b : Int) => (fun (c : Sym) => kqS q.fst.fst c)) o.syms 0).take a.toNat) o.syms ∧ @repl Int (LN o.syms) (0 : Int) = (kpN (bits (fun (d : Int) => (fun (e : Sym) => kqS q.fst.fst e)) o.syms 0) 0).take a.toNat ++ @List.replicate Int (o.syms.length - a.toNat) (0 : Int) ∧ (0 ≤ a ∧ a ≤ LN o.syms) ∧ True) ∧ (∀ (f : Int), 0 ≤ f ∧ f ≤ LN o.syms →
 (decide (f < LN o.syms) = true →
 (0 ≤ f ∧ f < LN o.syms) ∧ (∀ (g : Sym), o.syms[f.toNat]? = some g →
 Ok (Ty.st SN.sym) g →
 (kpS ((bits (fun (h : Int) => (fun (i : Sym) => kqS q.fst.fst i)) o.syms 0).take f.toNat) o.syms).length ≤ 9223372036854775807 →
 (0 ≤ f ∧ f < LN ((kpN (bits (fun (j : Int) => (fun (k : Sym) => kqS q.fst.fst k)) o.syms 0) 0).take f.toNat ++ @List.replicate Int (o.syms.length - f.toNat) (0 : Int))) ∧ (∀ (l : Int), ((kpN (bits (fun (m : Int) => (fun (n : Sym) => kqS q.fst.fst n)) o.syms 0) 0).take f.toNat ++ @List.replicate Int (o.syms.length - f.toNat) (0 : Int))[f.toNat]? = some l →
 (kqS q.fst.fst g = true →
 (((kpS ((bits (fun (p : Int) => (fun (r : Sym) => kqS q.fst.fst r)) o.syms 0).take f.toNat) o.syms).length + [g].length) * 40 ≤ 140737488355328 ∧ (kpS ((bits (fun (s : Int) => (fun (t : Sym) => kqS q.fst.fst t)) o.syms 0).take f.toNat) o.syms).length + [g].length ≤ 1000000000000) ∧ i64 (f + 1) ∧ (∃ (u : Int), f + 1 = u ∧ o.syms = o.syms ∧ LN o.syms = LN o.syms ∧ q.fst.fst = q.fst.fst ∧ o.sects = o.sects ∧ kpS ((bits (fun (v : Int) => (fun (w : Sym) => kqS q.fst.fst w)) o.syms 0).take f.toNat) o.syms ++ [g] = kpS ((bits (fun (x : Int) => (fun (y : Sym) => kqS q.fst.fst y)) o.syms 0).take u.toNat) o.syms ∧ ((kpN (bits (fun (z : Int) => (fun (A : Sym) => kqS q.fst.fst A)) o.syms 0) 0).take f.toNat ++ @List.replicate Int (o.syms.length - f.toNat) (0 : Int)).set f.toNat (LN (kpS ((bits (fun (B : Int) => (fun (C : Sym) => kqS q.fst.fst C)) o.syms 0).take f.toNat) o.syms)) = (kpN (bits (fun (D : Int) => (fun (E : Sym) => kqS q.fst.fst E)) o.syms 0) 0).take u.toNat ++ @List.replicate Int (o.syms.length - u.toNat) (0 : Int) ∧ (0 ≤ u ∧ u ≤ LN o.syms) ∧ o.syms.length - u.toNat < o.syms.length - f.toNat)) ∧ (kqS q.fst.fst g = false →
 i64 (f + 1) ∧ (∃ (F : Int), f + 1 = F ∧ o.syms = o.syms ∧ LN o.syms = LN o.syms ∧ q.fst.fst = q.fst.fst ∧ o.sects = o.sects ∧ kpS ((bits (fun (G : Int) => (fun (H : Sym) => kqS q.fst.fst H)) o.syms 0).take f.toNat) o.syms = kpS ((bits (fun (I : Int) => (fun (J : Sym) => kqS q.fst.fst J)) o.syms 0).take F.toNat) o.syms ∧ ((kpN (bits (fun (K : Int) => (fun (L : Sym) => kqS q.fst.fst L)) o.syms 0) 0).take f.toNat ++ @List.replicate Int (o.syms.length - f.toNat) (0 : Int)).set f.toNat (LN (kpS ((bits (fun (M : Int) => (fun (N : Sym) => kqS q.fst.fst N)) o.syms 0).take f.toNat) o.syms)) = (kpN (bits (fun (O : Int) => (fun (P : Sym) => kqS q.fst.fst P)) o.syms 0) 0).take F.toNat ++ @List.replicate Int (o.syms.length - F.toNat) (0 : Int) ∧ (0 ≤ F ∧ F ≤ LN o.syms) ∧ o.syms.length - F.toNat < o.syms.length - f.toNat))))) ∧ (decide (f < LN o.syms) = false →
 o.sects.length ≤ 9223372036854775807 →
 (∃ (Q : Int), 0 = Q ∧ LN o.sects = LN o.sects ∧ q.fst.fst = q.fst.fst ∧ o.sects = midS (kpN (bits (fun (R : Int) => (fun (S : Sym) => kqS q.fst.fst S)) o.syms 0) 0) o.sects Q ∧ kpS ((bits (fun (T : Int) => (fun (U : Sym) => kqS q.fst.fst U)) o.syms 0).take f.toNat) o.syms = kpS (bits (fun (V : Int) => (fun (W : Sym) => kqS q.fst.fst W)) o.syms 0) o.syms ∧ (kpN (bits (fun (X : Int) => (fun (Y : Sym) => kqS q.fst.fst Y)) o.syms 0) 0).take f.toNat ++ @List.replicate Int (o.syms.length - f.toNat) (0 : Int) = kpN (bits (fun (Z : Int) => (fun (aa : Sym) => kqS q.fst.fst aa)) o.syms 0) 0 ∧ (0 ≤ Q ∧ Q ≤ LN o.sects) ∧ True) ∧ (∀ (ab : Int), 0 ≤ ab ∧ ab ≤ LN o.sects →
 (decide (ab < LN o.sects) = true →
 (0 ≤ ab ∧ ab < LN (midS (kpN (bits (fun (ac : Int) => (fun (ad : Sym) => kqS q.fst.fst ad)) o.syms 0) 0) o.sects ab)) ∧ (∀ (ae : Sect), (midS (kpN (bits (fun (af : Int) => (fun (ag : Sym) => kqS q.fst.fst ag)) o.syms 0) 0) o.sects ab)[ab.toNat]? = some ae →
 Ok (Ty.st SN.sect) ae →
 (∀ (ah : Sect), (midS (kpN (bits (fun (ai : Int) => (fun (aj : Sym) => kqS q.fst.fst aj)) o.syms 0) 0) o.sects ab)[ab.toNat]? = some ah →
 ah.fixups.length ≤ 9223372036854775807 →
 (∃ (ak : Int), (∃ (al : Int), ab = ak ∧ 0 = al ∧ LN o.sects = LN o.sects ∧ LN ah.fixups = LN (sAt o.sects ak).fixups ∧ q.fst.fst = q.fst.fst ∧ midS (kpN (bits (fun (am : Int) => (fun (an : Sym) => kqS q.fst.fst an)) o.syms 0) 0) o.sects ab = midF (kpN (bits (fun (ao : Int) => (fun (ap : Sym) => kqS q.fst.fst ap)) o.syms 0) 0) o.sects ak al ∧ kpS (bits (fun (aq : Int) => (fun (ar : Sym) => kqS q.fst.fst ar)) o.syms 0) o.syms = kpS (bits (fun (au : Int) => (fun (av : Sym) => kqS q.fst.fst av)) o.syms 0) o.syms ∧ kpN (bits (fun (aw : Int) => (fun (ax : Sym) => kqS q.fst.fst ax)) o.syms 0) 0 = kpN (bits (fun (ay : Int) => (fun (az : Sym) => kqS q.fst.fst az)) o.syms 0) 0 ∧ ae.name = (sAt o.sects ak).name ∧ ae.kind = (sAt o.sects ak).kind ∧ ae.align = (sAt o.sects ak).align ∧ ab.toNat = ak.toNat ∧ ae.size = (sAt o.sects ak).size ∧ ab.toNat = ak.toNat ∧ (0 ≤ ak ∧ ak < LN o.sects ∧ (sAt o.sects ak).fixups.length ≤ 6 ∧ 0 ≤ al ∧ al ≤ LN (sAt o.sects ak).fixups) ∧ (∀ (aA : Int), (∀ (aB : Int), 0 ≤ aA ∧ aA < LN o.sects ∧ (sAt o.sects aA).fixups.length ≤ 6 ∧ 0 ≤ aB ∧ aB ≤ LN (sAt o.sects aA).fixups →
 (o.sects.length - aA.toNat) * 1000 + (100 - aB).toNat ≤ (o.sects.length - ak.toNat) * 1000 + (100 - al).toNat →
 (decide (aB < LN (sAt o.sects aA).fixups) = true →
 (∀ (aC : Sect), (midF (kpN (bits (fun (aD : Int) => (fun (aE : Sym) => kqS q.fst.fst aE)) o.syms 0) 0) o.sects aA aB)[aA.toNat]? = some aC →
 (0 ≤ aB ∧ aB < LN aC.fixups) ∧ (∀ (aF : Sect), (midF (kpN (bits (fun (aG : Int) => (fun (aH : Sym) => kqS q.fst.fst aH)) o.syms 0) 0) o.sects aA aB)[aA.toNat]? = some aF →
 (∀ (aI : Fixup), aF.fixups[aB.toNat]? = some aI →
 Ok (Ty.st SN.fixup) aI →
 (0 ≤ aI.to ∧ aI.to < LN (kpN (bits (fun (aJ : Int) => (fun (aK : Sym) => kqS q.fst.fst aK)) o.syms 0) 0)) ∧ (∀ (aL : Int), (kpN (bits (fun (aM : Int) => (fun (aN : Sym) => kqS q.fst.fst aN)) o.syms 0) 0)[aI.to.toNat]? = some aL →
 Ok (Ty.int IntKind.i64) aL →
 (∀ (aO : Sect), (midF (kpN (bits (fun (aP : Int) => (fun (aQ : Sym) => kqS q.fst.fst aQ)) o.syms 0) 0) o.sects aA aB)[aA.toNat]? = some aO →
 (0 ≤ aB ∧ aB < LN aO.fixups) ∧ (∀ (aR : Sect), (midF (kpN (bits (fun (aS : Int) => (fun (aT : Sym) => kqS q.fst.fst aT)) o.syms 0) 0) o.sects aA aB)[aA.toNat]? = some aR →
 (∀ (aU : Fixup), aR.fixups[aB.toNat]? = some aU →
 i64 (aB + 1) ∧ (∃ (aV : Int), (∃ (aW : Int), aA = aV ∧ aB + 1 = aW ∧ LN o.sects = LN o.sects ∧ LN (sAt o.sects aA).fixups = LN (sAt o.sects aV).fixups ∧ q.fst.fst = q.fst.fst ∧ (midF (kpN (bits (fun (aX : Int) => (fun (aY : Sym) => kqS q.fst.fst aY)) o.syms 0) 0) o.sects aA aB).set aA.toNat (Sect.mk aR.name aR.kind aR.align aR.bytes aR.size (aR.fixups.set aB.toNat (Fixup.mk aU.at_ aU.kind aL aU.add))) = midF (kpN (bits (fun (aZ : Int) => (fun (ba : Sym) => kqS q.fst.fst ba)) o.syms 0) 0) o.sects aV aW ∧ kpS (bits (fun (bb : Int) => (fun (bc : Sym) => kqS q.fst.fst bc)) o.syms 0) o.syms = kpS (bits (fun (bd : Int) => (fun (be : Sym) => kqS q.fst.fst be)) o.syms 0) o.syms ∧ kpN (bits (fun (bf : Int) => (fun (bg : Sym) => kqS q.fst.fst bg)) o.syms 0) 0 = kpN (bits (fun (bh : Int) => (fun (bi : Sym) => kqS q.fst.fst bi)) o.syms 0) 0 ∧ (sAt o.sects aA).name = (sAt o.sects aV).name ∧ (sAt o.sects aA).kind = (sAt o.sects aV).kind ∧ (sAt o.sects aA).align = (sAt o.sects aV).align ∧ aA.toNat = aV.toNat ∧ (sAt o.sects aA).size = (sAt o.sects aV).size ∧ aA.toNat = aV.toNat ∧ (0 ≤ aV ∧ aV < LN o.sects ∧ (sAt o.sects aV).fixups.length ≤ 6 ∧ 0 ≤ aW ∧ aW ≤ LN (sAt o.sects aV).fixups) ∧ (o.sects.length - aV.toNat) * 1000 + (100 - aW).toNat < (o.sects.length - aA.toNat) * 1000 + (100 - aB).toNat)))))))))) ∧ (decide (aB < LN (sAt o.sects aA).fixups) = false →
 i64 (aA + 1) ∧ (∃ (bj : Int), aA + 1 = bj ∧ LN o.sects = LN o.sects ∧ q.fst.fst = q.fst.fst ∧ midF (kpN (bits (fun (bk : Int) => (fun (bl : Sym) => kqS q.fst.fst bl)) o.syms 0) 0) o.sects aA aB = midS (kpN (bits (fun (bm : Int) => (fun (bn : Sym) => kqS q.fst.fst bn)) o.syms 0) 0) o.sects bj ∧ kpS (bits (fun (bo : Int) => (fun (bp : Sym) => kqS q.fst.fst bp)) o.syms 0) o.syms = kpS (bits (fun (bq : Int) => (fun (br : Sym) => kqS q.fst.fst br)) o.syms 0) o.syms ∧ kpN (bits (fun (bs : Int) => (fun (bt : Sym) => kqS q.fst.fst bt)) o.syms 0) 0 = kpN (bits (fun (bu : Int) => (fun (bv : Sym) => kqS q.fst.fst bv)) o.syms 0) 0 ∧ (0 ≤ bj ∧ bj ≤ LN o.sects) ∧ o.sects.length - bj.toNat < o.sects.length - ab.toNat))))))))) ∧ (decide (ab < LN o.sects) = false →
 midS (kpN (bits (fun (bw : Int) => (fun (bx : Sym) => kqS q.fst.fst bx)) o.syms 0) 0) o.sects ab = @List.map Sect Sect (reS (kpN (kP o q.fst.fst) 0)) o.sects ∧ kpS (bits (fun (bz : Int) => (fun (bA : Sym) => kqS q.fst.fst bA)) o.syms 0) o.syms = kpS (kP o q.fst.fst) o.syms ∧ q.fst.fst = q.fst.fst ∧ True))))))) := by kernel_rfl
theorem det_impl_Object_keepSymbols_kee : C_impl_Object_keepSymbols_kee.det = true → ∀ x, (C_impl_Object_keepSymbols_kee.out x).Det := fun _ x => by simp only [C_impl_Object_keepSymbols_kee]; repeat (first | exact Det.ret _ | exact Det.vc' | apply Det.req)
theorem ok_impl_Object_keepSymbols_kee : ConOK Try.prog 46 C_impl_Object_keepSymbols_kee := by
 refine con_q (l := L_impl_Object_keepSymbols_kee) ⟨⟨ok_impl_copyObject, det_impl_copyObject⟩, ⟨⟨ok_impl_KeepSections_3, det_impl_KeepSections_3⟩, trivial⟩⟩ Try.func46 rfl (by decide) (by kernel_rfl) rfl an_impl_Object_keepSymbols_kee fun x ho hx => ?_
 obtain ⟨o, q, ⟨⟩⟩ := x
 refine Keeps.of (vc_impl_Object_keepSymbols_kee o q) ?_
 revert o q ho hx
 show ∀ (o : Objt) (q : ((List (Int)) × (Unit)) × (Unit)), _
 intro o q ho hx
 dsimp only [C_impl_Object_keepSymbols_kee, okPTL, okPT, Ok, Ty.cells, SN.cells, OkL, OkC, okI, ci, cb, cs, cl] at ho
 dsimp only [C_impl_Object_keepSymbols_kee, vc, v1, decB, SR.pre] at hx
 have hl := kOk_lens hx.1.2
 have ho3 := hx.1.2
 have hk := fun p => @kpS_le p o.syms
 have h6 := fun i s => @kOk_6 o i s hx.1.2
 have h7 := fun i j s f => @kOk_in o i j s f hx.1.2
 have h8 := fun i h0 h => @sAt_get o.sects i h0 h
 have h9 := @sAt_eq o.sects
 (try delta i64 LN); simp only [VBt]; (repeat' first | intro _ | apply And.intro); all_goals (try omega)
 all_goals first | omega | exact kq_yes (by assumption) (by assumption) (by assumption) | exact kq_no (by assumption) (by assumption) (by assumption) | exact kq_end (by assumption) | exact kq_ends (by assumption) | exact kpN_zero rfl | exact kpS_zero.symm | exact midS_zero.symm | exact kpN_set (by assumption) bits_len (by rw [bits_len]; assumption) | exact midF_zero (by assumption) (by assumption) | exact midF_end (by assumption) (by assumption) (by assumption) | exact midF_set (by assumption) (by assumption) (by assumption) (by assumption) (by assumption) (by assumption) | exact (midF_tok (by assumption) (by assumption) (by assumption) (by assumption) (by assumption)).1 | exact midF_tnk (by assumption) (by assumption) (by assumption) (by assumption) (by assumption) bl_n | exact midF_set2 (by assumption) (by assumption) (by assumption) (by assumption) (by assumption) (by assumption) (by assumption) (by assumption) | rfl | exact midS_end (by assumption) | (try grind [bits_at, kpS_at, bits_len, kpN_len, kp_take_end, midS_end, keepO, midF_fix, midF_flen, midF_len, midS_len, midS_get])
theorem kSl_app {l : List Int} : ∀ {r r' : List Sect} {k : Int}, kSl l (r ++ r') k = kSl l r k ++ kSl l r' (k + r.length) := by
 intro r
 induction r with
 | nil => intro r' k; simp [kSl]
 | cons s r ih =>
  intro r' k
  simp only [List.cons_append, kSl, ih, List.length_cons]
  have e : k + 1 + (r.length : Int) = k + ((r.length + 1 : Nat) : Int) := by omega
  rw [e]
  split <;> simp
def kSa (o : Objt) (l : List Int) (i : Int) : List Sect := kSl l (o.sects.take i.toNat) 0
def kNa (o : Objt) (l : List Int) (i : Int) : List Int := (kNu l o.sects).take i.toNat ++ List.replicate (o.sects.length - i.toNat) 0
theorem kSa_next {o : Objt} {l : List Int} {i : Int} {s : Sect} (hi : 0 ≤ i) (h : o.sects[i.toNat]? = some s) : kSa o l (i + 1) = kSa o l i ++ (if inI l i = true then [s] else []) := by
 have := lt_of_some h
 unfold kSa
 rw [toNat_succ hi, take_snoc h, kSl_app, List.length_take]
 have e : (0 : Int) + (min i.toNat o.sects.length : Nat) = i := by omega
 rw [e]
 simp only [kSl]
theorem kSa_yes {o : Objt} {l : List Int} {i : Int} {s : Sect} (hn : inI l i = true) (h : o.sects[i.toNat]? = some s) (hi : 0 ≤ i) : kSa o l i ++ [s] = kSa o l (i + 1) := by rw [kSa_next hi h, if_pos hn]
theorem kSa_no {o : Objt} {l : List Int} {i : Int} (hn : inI l i = false) (hi : 0 ≤ i) (hl : i < o.sects.length) : kSa o l i = kSa o l (i + 1) := by
 obtain ⟨s, h⟩ := some_of_lt hi hl
 rw [kSa_next hi h, if_neg (by simp [hn])]; simp
theorem kSa_end {o : Objt} {l : List Int} {i : Int} (h : (o.sects.length : Int) ≤ i) : kSa o l i = kSl l o.sects 0 := by unfold kSa; rw [List.take_of_length_le (by omega)]
theorem kSa_len {o : Objt} {l : List Int} {i : Int} (ho : objB o = true) : (kSa o l i).length ≤ 8 := by
 have h := (kSl_sub (l := l) (r := o.sects.take i.toNat) (k := 0)).length_le
 rw [List.length_take] at h
 have := objB_lens ho
 unfold kSa
 omega
theorem kNu_len {l : List Int} {r : List Sect} : (kNu l r).length = r.length := by simp [kNu]
theorem kNu_get {o : Objt} {l : List Int} {i : Int} (hi : 0 ≤ i) (hl : i < o.sects.length) : (kNu l o.sects)[i.toNat]? = some ((kSa o l i).length : Int) := by
 unfold kNu kSa
 rw [List.getElem?_map, List.getElem?_range (by omega)]
 rfl
theorem kNa_0 {o : Objt} {l : List Int} : repl (o.sects.length : Int) 0 = kNa o l 0 := by simp [kNa, repl]
theorem kNa_len {o : Objt} {l : List Int} {i : Int} : (kNa o l i).length = o.sects.length := by
 unfold kNa
 simp only [List.length_append, List.length_take, kNu_len, List.length_replicate]
 omega
theorem kNa_set {o : Objt} {l : List Int} {i : Int} (hi : 0 ≤ i) (hl : i < o.sects.length) : (kNa o l i).set i.toNat ((kSa o l i).length : Int) = kNa o l (i + 1) := by
 unfold kNa
 rw [toNat_succ hi]
 exact set_fill (kNu_get hi hl) kNu_len
theorem kNa_end {o : Objt} {l : List Int} {i : Int} (h : (o.sects.length : Int) ≤ i) : kNa o l i = kNu l o.sects := by
 unfold kNa
 rw [List.take_of_length_le (by rw [kNu_len]; omega), show o.sects.length - i.toNat = 0 by omega]
 simp
def kAs (o : Objt) (l : List Int) (i : Int) : Bool := (kSa o l i).all (kAll o l)
theorem kAs_next {o : Objt} {l : List Int} {i : Int} {s : Sect} (hf : (s.fixups.any fun f => !kfx o l f) = false) (h : o.sects[i.toNat]? = some s) (hk : kAs o l i = true) (hi : 0 ≤ i) : kAs o l (i + 1) = true := by
 unfold kAs at *
 rw [kSa_next hi h, List.all_append, hk, Bool.true_and]
 split
 ·simp only [List.all_cons, List.all_nil, Bool.and_true, kAll]
  rw [List.all_eq_true]
  intro f hm
  have := List.any_eq_false.1 hf f hm
  simpa using this
 ·rfl
theorem kAs_no {o : Objt} {l : List Int} {i : Int} (hn : inI l i = false) (hk : kAs o l i = true) (hi : 0 ≤ i) (hl : i < o.sects.length) : kAs o l (i + 1) = true := by
 unfold kAs at *
 rw [← kSa_no hn hi hl]; exact hk
theorem kAs_end {o : Objt} {l : List Int} {i : Int} (h : (o.sects.length : Int) ≤ i) (hk : kAs o l i = true) (ho : objB o = true) : keeOk o l = true := by
 unfold kAs at hk
 rw [kSa_end h] at hk
 simp [keeOk, ho, hk]
theorem kee_bad {o : Objt} {l : List Int} {i : Int} {s : Sect} (hf : (s.fixups.any fun f => !kfx o l f) = true) (h : o.sects[i.toNat]? = some s) (hn : inI l i = true) (hi : 0 ≤ i) : keeOk o l = false := by
 simp only [keeOk, Bool.and_eq_false_iff]
 right
 rw [List.all_eq_false]
 have hm : s ∈ kSl l o.sects 0 := by
  have e : o.sects = o.sects.take (i + 1).toNat ++ o.sects.drop (i + 1).toNat := (List.take_append_drop _ _).symm
  rw [e, kSl_app]
  refine List.mem_append_left _ ?_
  have := kSa_yes (o := o) hn h hi
  unfold kSa at this
  rw [← this]; simp
 refine ⟨s, hm, ?_⟩
 obtain ⟨f, hf1, hf2⟩ := List.any_eq_true.1 hf
 simp only [kAll, Bool.not_eq_true]
 rw [List.all_eq_false]
 exact ⟨f, hf1, by simpa using hf2⟩
theorem kee_no {o : Objt} {l : List Int} (h : objB o = false) : keeOk o l = false := by simp [keeOk, h]
theorem keeV_no {o : Objt} {l : List Int} (h : keeOk o l = false) : keeV o l = ⟨[], []⟩ := by rw [keeV, if_neg (by simp [h])]
theorem keeV_yes {o : Objt} {l : List Int} (h : keeOk o l = true) : keeV o l = keeO o l := by rw [keeV, if_pos h]
theorem toIn_all {o : Objt} {s : Sect} {i : Int} (h : o.sects[i.toNat]? = some s) (ho : objB o = true) : s.fixups.all (toIn o) = true := by
 rw [List.all_eq_true]
 intro f hf
 obtain ⟨j, hj⟩ := List.getElem?_of_mem hf
 have := fix_in ho h hj
 exact decide_eq_true this
theorem kOk_of {o : Objt} {l : List Int} (ho : objB o = true) : kOk ⟨kSl l o.sects 0, o.syms⟩ = true := by
 have h1 := objB_lens ho
 have h2 := (kSl_sub (l := l) (r := o.sects) (k := 0)).length_le
 simp only [kOk, Bool.and_eq_true, decide_eq_true_eq, List.all_eq_true]
 refine ⟨⟨by omega, h1.2⟩, fun s hs => ?_⟩
 have hs := kSl_sub.subset hs
 obtain ⟨i, hi⟩ := List.getElem?_of_mem hs
 refine ⟨fix_6 (o := o) ho hi, fun f hf => ?_⟩
 obtain ⟨j, hj⟩ := List.getElem?_of_mem hf
 have := fix_in (o := o) ho hi hj
 exact decide_eq_true this
theorem sumI_sub {α : Type} {f : α → Int} (hf : ∀ x, 0 ≤ f x) {l m : List α} (h : List.Sublist l m) : sumI f l ≤ sumI f m := by
 induction h with
 | slnil => exact Int.le_refl _
 | cons x h ih => have := hf x; simp only [sumI]; omega
 | cons_cons x h ih => simp only [sumI]; omega
theorem kSz_of {o : Objt} {l : List Int} (ho : objB o = true) : szOb ⟨kSl l o.sects 0, o.syms⟩ ≤ 1000000 := by
 have h := objB_sz ho
 have h2 := (kSl_sub (l := l) (r := o.sects) (k := 0)).length_le
 have h3 := sumI_sub szSe_nn (kSl_sub (l := l) (r := o.sects) (k := 0))
 unfold szOb at *
 simp only
 omega
def mvA (o : Objt) (l : List Int) (j : Int) : List Sym := ((kpS (kP o l) o.syms).take j.toNat).map (mvS (kNu l o.sects)) ++ (kpS (kP o l) o.syms).drop j.toNat
theorem mvA_0 {o : Objt} {l : List Int} : kpS (kP o l) o.syms = mvA o l 0 := by simp [mvA]
theorem mvA_len {o : Objt} {l : List Int} {j : Int} : (mvA o l j).length = (kpS (kP o l) o.syms).length := by simp [mvA]; omega
theorem mvA_get {o : Objt} {l : List Int} {j : Int} : (mvA o l j)[j.toNat]? = (kpS (kP o l) o.syms)[j.toNat]? := by
 unfold mvA
 by_cases h : j.toNat < (kpS (kP o l) o.syms).length
 ·have e : (((kpS (kP o l) o.syms).take j.toNat).map (mvS (kNu l o.sects))).length = j.toNat := by simp; omega
  rw [List.getElem?_append_right (by omega), e, Nat.sub_self, List.getElem?_drop, Nat.add_zero]
 ·rw [List.getElem?_eq_none (by simp; omega), List.getElem?_eq_none (by omega)]
theorem mvA_next {o : Objt} {l : List Int} {j : Int} {s : Sym} (hj : 0 ≤ j) (h : (kpS (kP o l) o.syms)[j.toNat]? = some s) : (mvA o l j).set j.toNat (mvS (kNu l o.sects) s) = mvA o l (j + 1) := by
 unfold mvA
 have hl := lt_of_some h
 have e : (((kpS (kP o l) o.syms).take j.toNat).map (mvS (kNu l o.sects))).length = j.toNat := by simp; omega
 rw [List.set_append_right _ _ (by omega), e, Nat.sub_self, List.drop_eq_getElem_cons hl, List.set_cons_zero, toNat_succ hj, take_snoc h, List.map_append, List.append_assoc]
 rfl
theorem kpS_wher {o : Objt} {p : List Bool} {s : Sym} {j : Nat} (h : (kpS p o.syms)[j]? = some s) (ho : objB o = true) : s.wher < o.sects.length := by
 have hm := kpS_sub.subset (List.mem_of_getElem? h)
 obtain ⟨i, hi⟩ := List.getElem?_of_mem hm
 have := RB_w (k := (i : Int)) (by simpa using hi) ho
 exact this
theorem mv_w {o : Objt} {l : List Int} {j : Int} {s : Sym} (h : (mvA o l j)[j.toNat]? = some s) (ho : objB o = true) : s.wher < (kNu l o.sects).length := by
 rw [kNu_len]
 rw [mvA_get] at h
 exact kpS_wher h ho
theorem mv_y {o : Objt} {l : List Int} {j n : Int} {s t u : Sym} (hn : (kNu l o.sects)[t.wher.toNat]? = some n) (ht : (mvA o l j)[j.toNat]? = some t) (hs : (mvA o l j)[j.toNat]? = some s) (hw : 0 ≤ u.wher) (hu : (mvA o l j)[j.toNat]? = some u) (hj : 0 ≤ j) : (mvA o l j).set j.toNat ⟨s.name, s.bind, n, s.value⟩ = mvA o l (j + 1) := by
 have e : t = s := Option.some.inj (ht.symm.trans hs)
 have e2 : u = s := Option.some.inj (hu.symm.trans hs)
 subst e; subst e2
 rw [mvA_get] at hs
 rw [← mvA_next hj hs, mvS, if_pos hw, getD_get hn]
theorem mv_n {o : Objt} {l : List Int} {j : Int} {s : Sym} (hs : (mvA o l j)[j.toNat]? = some s) (hw : s.wher < 0) (hj : 0 ≤ j) : mvA o l j = mvA o l (j + 1) := by
 have h := hs
 rw [mvA_get] at h
 rw [← mvA_next hj h, mvS, if_neg (by omega)]
 refine List.ext_getElem? fun i => ?_
 rw [List.getElem?_set]
 split
 ·rename_i e; subst e; rw [hs, if_pos (lt_of_some hs)]
 ·rfl
theorem mv_e1 {o : Objt} {l : List Int} {j : Int} (h : ((kpS (kP o l) o.syms).length : Int) ≤ j) (hk : keeOk o l = true) : mvA o l j = (keeV o l).syms := by
 rw [keeV_yes hk, mvA, List.take_of_length_le (by omega), List.drop_of_length_le (by omega)]
 simp [keeO]
theorem mv_e2 {o : Objt} {l : List Int} (hk : keeOk o l = true) : (kSl l o.sects 0).map (reS (kpN (kP o l) 0)) = (keeV o l).sects := by rw [keeV_yes hk]; rfl
theorem KS_1 {o : Objt} {l : List Int} (h : objB o = false) : false = keeOk o l := (kee_no h).symm
theorem KS_2 {o : Objt} {l : List Int} (h : objB o = false) : [] = (keeV o l).sects := by rw [keeV_no (kee_no h)]
theorem KS_3 {o : Objt} {l : List Int} (h : objB o = false) : [] = (keeV o l).syms := by rw [keeV_no (kee_no h)]
theorem KS_8 {g : Sect → Sect} {l : List Sect} {i : Int} (h : i < l.length) : i < (holS g l i).length := by rw [holS_len]; exact h
theorem KS_9 {g : Sect → Sect} {l : List Sect} {i : Int} (hi : 0 ≤ i) (h : i < l.length) : ∃ f, (holS g l i)[i.toNat]? = some (f, true) := by
 obtain ⟨s, hs⟩ := some_of_lt hi h
 exact ⟨s, holS_get.2 ⟨hs, rfl⟩⟩
theorem KS_h {l : List Sect} {i : Int} {y : Sect} (h : (holS (fun c => c) l i)[i.toNat]? = some (y, true)) (hi : 0 ≤ i) : (holS (fun c => c) l i).set i.toNat (y, false) = holS (fun c => c) l (i + 1) := holS_set hi (holS_get.1 h).1 rfl
theorem KS_10 {o : Objt} {l : List Int} {i : Int} (h : i < o.sects.length) : i < (kNa o l i).length := by rw [kNa_len]; exact h
theorem KS_15 {o : Objt} {g : Sect → Sect} {i : Int} {y : Sect} (h : (holS g o.sects i)[i.toNat]? = some (y, true)) (ho : objB o = true) : y.fixups.all (toIn o) = true := toIn_all (holS_get.1 h).1 ho
theorem KS_16 {o : Objt} {l : List Int} {g : Sect → Sect} {i : Int} {y : Sect} (hf : (y.fixups.any fun f => !kfx o l f) = true) (h : (holS g o.sects i)[i.toNat]? = some (y, true)) (hn : inI l i = true) (hi : 0 ≤ i) : false = keeOk o l := (kee_bad hf (holS_get.1 h).1 hn hi).symm
theorem KS_17 {o : Objt} {l : List Int} {g : Sect → Sect} {i : Int} {y : Sect} (hf : (y.fixups.any fun f => !kfx o l f) = true) (h : (holS g o.sects i)[i.toNat]? = some (y, true)) (hn : inI l i = true) (hi : 0 ≤ i) : [] = (keeV o l).sects := by rw [keeV_no (KS_16 hf h hn hi).symm]
theorem KS_18 {o : Objt} {l : List Int} {g : Sect → Sect} {i : Int} {y : Sect} (hf : (y.fixups.any fun f => !kfx o l f) = true) (h : (holS g o.sects i)[i.toNat]? = some (y, true)) (hn : inI l i = true) (hi : 0 ≤ i) : [] = (keeV o l).syms := by rw [keeV_no (KS_16 hf h hn hi).symm]
theorem KS_19 {o : Objt} {l : List Int} {i : Int} (ho : objB o = true) : ((kSa o l i).length + (0 + 1)) * 88 ≤ 140737488355328 := by have := kSa_len (l := l) (i := i) ho; omega
theorem KS_20 {o : Objt} {l : List Int} {i : Int} (ho : objB o = true) : (kSa o l i).length + (0 + 1) ≤ 1000000000000 := by have := kSa_len (l := l) (i := i) ho; omega
theorem KS_21 {o : Objt} {l : List Int} {g : Sect → Sect} {i : Int} {y : Sect} (h : (holS g o.sects i)[i.toNat]? = some (y, true)) (hn : inI l i = true) (hi : 0 ≤ i) : kSa o l i ++ [y] = kSa o l (i + 1) := kSa_yes hn (holS_get.1 h).1 hi
theorem KS_22 {o : Objt} {l : List Int} {g : Sect → Sect} {i : Int} {y : Sect} (hf : (y.fixups.any fun f => !kfx o l f) = false) (h : (holS g o.sects i)[i.toNat]? = some (y, true)) (hk : kAs o l i = true) (hi : 0 ≤ i) : kAs o l (i + 1) = true := kAs_next hf (holS_get.1 h).1 hk hi
theorem KS_23 {o : Objt} {l : List Int} {i : Int} (h : (o.sects.length : Int) ≤ i) (ho : objB o = true) : szOb ⟨kSa o l i, o.syms⟩ ≤ 1000000 := by rw [kSa_end h]; exact kSz_of ho
theorem KS_24 {o : Objt} {l : List Int} {i : Int} (h : (o.sects.length : Int) ≤ i) (ho : objB o = true) : kOk ⟨kSa o l i, o.syms⟩ = true := by rw [kSa_end h]; exact kOk_of ho
theorem KS_25 {o : Objt} {l : List Int} {i : Int} (h : (o.sects.length : Int) ≤ i) : (kSa o l i).map (reS (kpN (kP ⟨kSa o l i, o.syms⟩ l) 0)) = (kSl l o.sects 0).map (reS (kpN (kP o l) 0)) := by rw [kSa_end h]; rfl
theorem KS_26 {o : Objt} {l : List Int} {i : Int} : kpS (kP ⟨kSa o l i, o.syms⟩ l) o.syms = mvA o l 0 := mvA_0
theorem KS_27 {o : Objt} {l : List Int} {j : Int} (h : j < (kpS (kP o l) o.syms).length) : j < (mvA o l j).length := by rw [mvA_len]; exact h
theorem KS_28 {o : Objt} {l : List Int} {j : Int} (h : (o.sects.length : Int) ≤ j) : kNa o l j = kNu l o.sects := kNa_end h
theorem KS_30 {o : Objt} {l : List Int} {j : Int} (h : j < (kpS (kP o l) o.syms).length) (ho : objB o = true) : j + 1 ≤ 9223372036854775807 := by
 have := kpS_le (p := kP o l) (l := o.syms)
 have := objB_lens ho
 omega
def C_impl_KeepSections : Con := { ps := [.ro (.st .obj), .ro (.list .i)], out := fun x => let o : Objt := x.1; let l : List (Int) := x.2.1; newSB .obj (keeV o l) (keeOk o l), det := true }
abbrev L_impl_KeepSections : List (Nat × Con) := [(10, C_impl_ObjectValid), (41, C_impl_KeepSections_1), (43, C_slices_Clone_impl_Symbol_impl_Symbol), (27, C_impl_copyObject), (42, C_slices_Contains_int_int), (45, C_impl_KeepSections_2), (44, C_slices_ContainsFunc_impl_Fixup_impl_Fixup_kee), (47, C_impl_KeepSections_3), (46, C_impl_Object_keepSymbols_kee)]
def G_impl_KeepSections : Cfg := GK L_impl_KeepSections
def an_impl_KeepSections : PTL C_impl_KeepSections.ps → Nat → Option Ann := fun x kk_ => let o : Objt := x.1; let l : List (Int) := x.2.1; if kk_ = 6 then some (.all (Int) fun i => .giv (objB o = true ∧ 0 ≤ i ∧ i ≤ o.sects.length ∧ kAs o l i = true) (.mk [(30, ai i), (28, asl 36), (29, ai o.sects.length), (6, aref 41), (7, aref 31), (8, asl 34), (4, aref 30), (2, aref 62), (3, aref 63)] [(30, .box false [.nil, .nil]), (31, .box false [.sl 32 [], .sl 33 []]), (32, .row none (.st .sect) (kSa o l i) true), (33, .row none (.st .sym) o.syms true), (34, .row (some 3) .i (kNa o l i) true), (36, .row none (.hol .sect) (holS id o.sects i) true), (41, .box false [.fn 41 [63]]), (62, bx (ast .obj o)), (63, bx (al .i l))] ((o.sects.length - i.toNat)))) else if kk_ = 16 then some (.all (Int) fun j => .giv (objB o = true ∧ keeOk o l = true ∧ 0 ≤ j ∧ j ≤ (kpS (kP o l) o.syms).length) (.mk [(63, ai j), (61, asl 33), (62, ai (kpS (kP o l) o.syms).length), (7, aref 31), (8, asl 34), (4, aref 30)] [(30, .box false [.nil, .nil]), (31, .box false [.sl 32 [], .sl 33 []]), (32, .row none (.st .sect) ((kSl l o.sects 0).map (reS (kpN (kP o l) 0))) true), (33, .row none (.st .sym) (mvA o l j) true), (34, .row (some 3) .i (kNu l o.sects) true)] (((kpS (kP o l) o.syms).length - j.toNat)))) else none
theorem vc_impl_KeepSections (o : Objt) (l : List (Int)) : (KP Try.f16 G_impl_KeepSections C_impl_KeepSections an_impl_KeepSections (o, l, ())) = ((Bool.not (objB o) = true →
 false = keeOk o l ∧ ([] : List Sect) = (keeV o l).sects ∧ ([] : List Sym) = (keeV o l).syms ∧ True) ∧ (Bool.not (objB o) = false →
 o.syms.length ≤ 1048576 ∧ (o.sects.length ≤ 9223372036854775807 →
 (LN o.sects = LN o.sects ∧ 0 ≤ LN o.sects ∧ LN o.sects ≤ 1000000000000 ∧ @Nat.cast Int _ (8 : Nat) * LN o.sects ≤ 140737488355328) ∧ szOb o ≤ 1048576 ∧ (o.sects.length ≤ 9223372036854775807 →
 (∃ (a : Int), 0 = a ∧ LN o.sects = LN o.sects ∧ ([] : List Sect) = kSa o l a ∧ o.syms = o.syms ∧ @repl Int (LN o.sects) (0 : Int) = kNa o l a ∧ @List.map Sect (Prod Sect Bool) (fun (b : Sect) => @Prod.mk Sect Bool b true) o.sects = holS (fun (c : Sect) => c) o.sects a ∧ o.sects = o.sects ∧ o.syms = o.syms ∧ l = l ∧ (objB o = true ∧ 0 ≤ a ∧ a ≤ LN o.sects ∧ kAs o l a = true) ∧ True) ∧ (∀ (d : Int), objB o = true ∧ 0 ≤ d ∧ d ≤ LN o.sects ∧ kAs o l d = true →
 (decide (d < LN o.sects) = true →
 (0 ≤ d ∧ d < LN (holS (fun (e : Sect) => e) o.sects d)) ∧ (∃ (f : Sect), (holS (fun (g : Sect) => g) o.sects d)[d.toNat]? = some (@Prod.mk Sect Bool f true)) ∧ (∀ (h : Sect), (holS (fun (i : Sect) => i) o.sects d)[d.toNat]? = some (@Prod.mk Sect Bool h true) →
 Ok (Ty.st SN.sect) h →
 (kSa o l d).length ≤ 9223372036854775807 →
 (0 ≤ d ∧ d < LN (kNa o l d)) ∧ (∀ (j : Int), (kNa o l d)[d.toNat]? = some j →
 (Bool.not (inI l d) = true →
 i64 (d + 1) ∧ (∃ (k : Int), d + 1 = k ∧ LN o.sects = LN o.sects ∧ kSa o l d = kSa o l k ∧ o.syms = o.syms ∧ (kNa o l d).set d.toNat (LN (kSa o l d)) = kNa o l k ∧ (holS (fun (m : Sect) => m) o.sects d).set d.toNat (@Prod.mk Sect Bool h false) = holS (fun (n : Sect) => n) o.sects k ∧ o.sects = o.sects ∧ o.syms = o.syms ∧ l = l ∧ (objB o = true ∧ 0 ≤ k ∧ k ≤ LN o.sects ∧ kAs o l k = true) ∧ o.sects.length - k.toNat < o.sects.length - d.toNat)) ∧ (Bool.not (inI l d) = false →
 @List.all Fixup h.fixups (toIn o) = true ∧ (@List.any Fixup h.fixups (fun (p : Fixup) => Bool.not (kfx o l p)) = true →
 false = keeOk o l ∧ ([] : List Sect) = (keeV o l).sects ∧ ([] : List Sym) = (keeV o l).syms ∧ True) ∧ (@List.any Fixup h.fixups (fun (q : Fixup) => Bool.not (kfx o l q)) = false →
 (((kSa o l d).length + [h].length) * 88 ≤ 140737488355328 ∧ (kSa o l d).length + [h].length ≤ 1000000000000) ∧ i64 (d + 1) ∧ (∃ (r : Int), d + 1 = r ∧ LN o.sects = LN o.sects ∧ kSa o l d ++ [h] = kSa o l r ∧ o.syms = o.syms ∧ (kNa o l d).set d.toNat (LN (kSa o l d)) = kNa o l r ∧ (holS (fun (s : Sect) => s) o.sects d).set d.toNat (@Prod.mk Sect Bool h false) = holS (fun (t : Sect) => t) o.sects r ∧ o.sects = o.sects ∧ o.syms = o.syms ∧ l = l ∧ (objB o = true ∧ 0 ≤ r ∧ r ≤ LN o.sects ∧ kAs o l r = true) ∧ o.sects.length - r.toNat < o.sects.length - d.toNat)))))) ∧ (decide (d < LN o.sects) = false →
 (szOb (Objt.mk (kSa o l d) o.syms) ≤ 1000000 ∧ kOk (Objt.mk (kSa o l d) o.syms) = true) ∧ ((kpS (kP (Objt.mk (kSa o l d) o.syms) l) o.syms).length ≤ 9223372036854775807 →
 (∃ (u : Int), 0 = u ∧ LN (kpS (kP (Objt.mk (kSa o l d) o.syms) l) o.syms) = LN (kpS (kP o l) o.syms) ∧ @List.map Sect Sect (reS (kpN (kP (Objt.mk (kSa o l d) o.syms) l) 0)) (kSa o l d) = @List.map Sect Sect (reS (kpN (kP o l) 0)) (kSl l o.sects 0) ∧ kpS (kP (Objt.mk (kSa o l d) o.syms) l) o.syms = mvA o l u ∧ kNa o l d = kNu l o.sects ∧ (objB o = true ∧ keeOk o l = true ∧ 0 ≤ u ∧ u ≤ LN (kpS (kP o l) o.syms)) ∧ True) ∧ (∀ (v : Int), objB o = true ∧ keeOk o l = true ∧ 0 ≤ v ∧ v ≤ LN (kpS (kP o l) o.syms) →
 (decide (v < LN (kpS (kP o l) o.syms)) = true →
 (0 ≤ v ∧ v < LN (mvA o l v)) ∧ (∀ (w : Sym), (mvA o l v)[v.toNat]? = some w →
 Ok (Ty.st SN.sym) w →
 (decide (0 ≤ w.wher) = true →
 (0 ≤ w.wher ∧ w.wher < LN (kNu l o.sects)) ∧ (∀ (x : Int), (kNu l o.sects)[w.wher.toNat]? = some x →
 Ok (Ty.int IntKind.i64) x →
 (0 ≤ v ∧ v < LN (mvA o l v)) ∧ (∀ (y : Sym), (mvA o l v)[v.toNat]? = some y →
 i64 (v + 1) ∧ (∃ (z : Int), v + 1 = z ∧ LN (kpS (kP o l) o.syms) = LN (kpS (kP o l) o.syms) ∧ @List.map Sect Sect (reS (kpN (kP o l) 0)) (kSl l o.sects 0) = @List.map Sect Sect (reS (kpN (kP o l) 0)) (kSl l o.sects 0) ∧ (mvA o l v).set v.toNat (Sym.mk y.name y.bind x y.value) = mvA o l z ∧ kNu l o.sects = kNu l o.sects ∧ (objB o = true ∧ keeOk o l = true ∧ 0 ≤ z ∧ z ≤ LN (kpS (kP o l) o.syms)) ∧ (kpS (kP o l) o.syms).length - z.toNat < (kpS (kP o l) o.syms).length - v.toNat)))) ∧ (decide (0 ≤ w.wher) = false →
 i64 (v + 1) ∧ (∃ (A : Int), v + 1 = A ∧ LN (kpS (kP o l) o.syms) = LN (kpS (kP o l) o.syms) ∧ @List.map Sect Sect (reS (kpN (kP o l) 0)) (kSl l o.sects 0) = @List.map Sect Sect (reS (kpN (kP o l) 0)) (kSl l o.sects 0) ∧ mvA o l v = mvA o l A ∧ kNu l o.sects = kNu l o.sects ∧ (objB o = true ∧ keeOk o l = true ∧ 0 ≤ A ∧ A ≤ LN (kpS (kP o l) o.syms)) ∧ (kpS (kP o l) o.syms).length - A.toNat < (kpS (kP o l) o.syms).length - v.toNat)))) ∧ (decide (v < LN (kpS (kP o l) o.syms)) = false →
 true = keeOk o l ∧ @List.map Sect Sect (reS (kpN (kP o l) 0)) (kSl l o.sects 0) = (keeV o l).sects ∧ mvA o l v = (keeV o l).syms ∧ True))))))))) := by kernel_rfl
theorem det_impl_KeepSections : C_impl_KeepSections.det = true → ∀ x, (C_impl_KeepSections.out x).Det := fun _ _ => Det.ret _
theorem ok_impl_KeepSections : ConOK Try.prog 16 C_impl_KeepSections := by
 refine con_q (l := L_impl_KeepSections) ⟨⟨ok_impl_ObjectValid, det_impl_ObjectValid⟩, ⟨⟨ok_impl_KeepSections_1, det_impl_KeepSections_1⟩, ⟨⟨ok_slices_Clone_impl_Symbol_impl_Symbol, det_slices_Clone_impl_Symbol_impl_Symbol⟩, ⟨⟨ok_impl_copyObject, det_impl_copyObject⟩, ⟨⟨ok_slices_Contains_int_int, det_slices_Contains_int_int⟩, ⟨⟨ok_impl_KeepSections_2, det_impl_KeepSections_2⟩, ⟨⟨ok_slices_ContainsFunc_impl_Fixup_impl_Fixup_kee, det_slices_ContainsFunc_impl_Fixup_impl_Fixup_kee⟩, ⟨⟨ok_impl_KeepSections_3, det_impl_KeepSections_3⟩, ⟨⟨ok_impl_Object_keepSymbols_kee, det_impl_Object_keepSymbols_kee⟩, trivial⟩⟩⟩⟩⟩⟩⟩⟩⟩ Try.func16 rfl (by decide) (by kernel_rfl) rfl an_impl_KeepSections fun x ho hx => ?_
 obtain ⟨o, l, ⟨⟩⟩ := x
 refine Keeps.of (vc_impl_KeepSections o l) ?_
 revert o l ho hx
 show ∀ (o : Objt) (l : List (Int)), _
 intro o l ho hx
 dsimp only [C_impl_KeepSections, okPTL, okPT, Ok, Ty.cells, SN.cells, OkL, OkC, okI, ci, cb, cs, cl] at ho
 dsimp only [C_impl_KeepSections, vc, v1, decB, SR.pre] at hx
 (try delta i64 LN); simp only [VBt]; (repeat' first | intro _ | apply And.intro); all_goals (try omega)
 all_goals first | omega | rfl | (have := objB_sz (o := o) (by assumption); omega) | (have := objB_lens (o := o) (by assumption); omega) | exact KS_1 (by assumption) | exact KS_2 (by assumption) | exact KS_3 (by assumption) | exact KS_8 (by assumption) | exact KS_9 (by assumption) (by assumption) | exact KS_h (by assumption) (by assumption) | exact KS_10 (by assumption) | exact kSa_no (by assumption) (by assumption) (by assumption) | exact kNa_set (by assumption) (by assumption) | exact kNa_0 | exact kAs_no (by assumption) (by assumption) (by assumption) (by assumption) | exact KS_15 (by assumption) (by assumption) | exact KS_16 (by assumption) (by assumption) (by assumption) (by assumption) | exact KS_17 (by assumption) (by assumption) (by assumption) (by assumption) | exact KS_18 (by assumption) (by assumption) (by assumption) (by assumption) | exact KS_19 (by assumption) | exact KS_20 (by assumption) | exact KS_21 (by assumption) (by assumption) (by assumption) | exact KS_22 (by assumption) (by assumption) (by assumption) (by assumption) | exact KS_23 (by assumption) (by assumption) | exact KS_24 (by assumption) (by assumption) | exact KS_25 (by assumption) | exact KS_26 | exact KS_27 (by assumption) | exact KS_28 (by assumption) | exact KS_30 (by assumption) (by assumption) | exact kAs_end (by assumption) (by assumption) (by assumption) | exact mv_w (by assumption) (by assumption) | exact mv_y (by assumption) (by assumption) (by assumption) (by assumption) (by assumption) (by assumption) | exact mv_n (by assumption) (by assumption) (by assumption) | exact mv_e1 (by assumption) (by assumption) | exact mv_e2 (by assumption) | exact holS_zero | exact RM_w (by assumption) (by assumption) (by assumption) | exact Eq.symm (by assumption) | skip
end Go.Proofs.Ytpgglbnagphgoaa
