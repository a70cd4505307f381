/- A small logic of states, part 3: what an operation makes of a state, and that it is so. It is of no program. -/
import Derived.Test.YtpgglbnagphgoaaGreatVmP2Q
import Derived.Tactics
import Derived.Orders
set_option linter.unusedVariables false
set_option linter.unusedSimpArgs false
/- A load that takes the lists out of an element of a row with holes. No program is in sight. -/
namespace Go.Proofs.YtpgglbnagphgoaaGreat
open Go.RowKit
open SR (opt)

section
variable {P : Program} {Γ : Cfg} {W0 w : World} {E0 E : Env} {nl N base : Nat} {st : ASt} {a : Act} {o : Oper} {tb : Tb}

theorem movA_get (n : Nat) (cs : List Cell) (j : Nat) : (movA n cs)[j]? = (cs[j]?).map fun c => (match c with | ⟨.list _, _⟩ => A1.sl (n + j) [] | c => A1.c c) := by
 induction cs generalizing n j with
 | nil => simp [movA]
 | cons c cs ih =>
  cases j with
  | zero => simp only [movA, List.getElem?_cons_zero, Option.map_some, Nat.add_zero]; try rfl
  | succ j =>
   simp only [movA, List.getElem?_cons_succ]
   rw [ih, show n + 1 + j = n + (j + 1) from by omega]
theorem movA_len (n : Nat) (cs : List Cell) : (movA n cs).length = cs.length := by
 induction cs generalizing n with
 | nil => rfl
 | cons c cs ih => simp [movA, ih]
theorem movB_lk (n : Nat) (cs : List Cell) (i : Nat) (b : Blk) (h : lk (movB n cs) i = some b) : ∃ (j : Nat) (t : Ty) (x : List t.den), i = n + j ∧ cs[j]? = some ⟨.list t, x⟩ ∧ b = .row none t x true := by
 induction cs generalizing n with
 | nil => cases h
 | cons c cs ih =>
  have step : lk (movB (n + 1) cs) i = some b → ∃ (j : Nat) (t : Ty) (x : List t.den), i = n + j ∧ (c :: cs)[j]? = some ⟨.list t, x⟩ ∧ b = .row none t x true := fun h => by
   obtain ⟨j, t, x, h1, h2, h3⟩ := ih (n + 1) h
   exact ⟨j + 1, t, x, by omega, by simpa using h2, h3⟩
  unfold movB at h
  split at h
  ·rename_i heq
   cases heq
  ·rename_i t x cs' heq
   injection heq with e1 e2
   subst e1 e2
   rw [lk_cons] at h
   split at h
   ·injection h with h
    exact ⟨0, t, x, by omega, rfl, h.symm⟩
   ·exact step h
  ·rename_i heq
   injection heq with e1 e2
   subst e1 e2
   exact step h
def Env.mov (E : Env) (id base k off : Nat) (g : Nat → Nat → Value) (S : Nat → Nat → Nat → Prop) : Env := {
 hd := E.hd
 hv := fun i => if base ≤ i ∧ i < base + 16 then g k (off + (i - base)) else E.hv i
 bs := fun i b => if base ≤ i ∧ i < base + 16 then S k (off + (i - base)) b else if i = id then E.bs id b ∧ ∀ j, ¬ S k j b else E.bs i b
 ro := E.ro }

theorem mov_ok (h : Sat W0 E0 nl N st E a w) (hd : ∀ d, o.dst = some d → d < N) {t : TypeId} {x : Operand} (ho : o.op = .load t x) {r : SR} (hr : movLd P base st t x = some r) (hp : r.pre) (Q : Exit → Act → World → Prop) : o.wp P a w (After W0 E0 nl N st o r) Q := by
 unfold movLd at hr
 ·split at hr
  ·rename_i id k off hx
   split at hr
   ·rename_i e s l hl
    split at hr
    case h_2 => cases hr
    injection hr with hr
    subst hr
    unfold movS at hp
    cases hb : (st.bel base && Nat.ble 20 id && !boxT [id] st.tb) with
    | false => rw [hb] at hp; exact hp.elim
    | true =>
    have hout0 : ∀ e', ((opt (tinfo P t) fun (n, ag) => .req (∃ y : s.den, l[k]? = some (y, true)) (.all s.den fun y => .giv (l[k]? = some (y, true)) (.giv (Ok (.st s) y) (opt (cut (s.cells y) off n) fun cs =>
     bif Nat.ble n 15 then opt (avOf ag (movA base cs)) fun v => .ret { val := v, ins := (id, .row e (.hol s) (l.set k (y, false)) true) :: movB base cs, kill := [id] } else .bad)))) : SR).outs e' → (movS P base st t id k off e s l).outs e' := fun e' he' => by
     unfold movS
     rw [hb]
     exact he'
    rw [hb] at hp
    simp only [Bool.and_eq_true, Bool.not_eq_true'] at hb
    obtain ⟨⟨hbel, h20⟩, hbox⟩ := hb
    simp only [cond_true, opt_pre] at hp
    obtain ⟨⟨n, ag⟩, ht, ⟨y, hy⟩, hp⟩ := hp
    have hrow : RowOk w (Fz w E st.tb) (E.bs id) e (E.hv id) (.hol s) l true := h.blks id _ hl
    have hls : (lk st.tb id).isSome = true := by rw [hl]; rfl
    obtain ⟨b0, o0, n0, c0, t0, l0, hat, hk, hpt⟩ := (h.ev1 hx).2 e (.hol s) l true hl
    obtain ⟨e1, e2⟩ := hat.nil_inv
    cases e2
    rw [← e1] at hrow
    rcases hrow with ⟨h0, _⟩ | ⟨b, c, eT, cur, g, S, hs, hB, hh, he, hsz, hc, hm, hg, hS, hSd, hr⟩
    ·cases h0
    injection hs with q1 q2 q3
    injection q1 with q1
    injection q1 with q1 q4
    subst q1 q4 q2 q3
    rw [Nat.zero_add] at hpt
    have hown : ∀ j cl, (s.cells y)[j]? = some cl → OwnC w (S k j) (g k j) cl := fun j cl hj => by
     have := hr k (y, true) j cl hy hj
     simpa using this
    have hok : Ok (.st s) y := (OkL_iff _).2 fun cl hcl => by
     obtain ⟨j, hj⟩ := List.mem_iff_getElem?.1 hcl
     exact (hown j cl hj).rep.okC
    have hp := hp y hy hok
    simp only [opt_pre] at hp
    obtain ⟨cs, hcut, hp⟩ := hp
    cases hn15 : Nat.ble n 15 with
    | false => rw [hn15] at hp; exact hp.elim
    | true =>
    rw [hn15] at hp
    simp only [cond_true, opt_pre] at hp
    obtain ⟨v, hv, _⟩ := hp
    have hn : n ≤ 15 := Nat.le_of_ble_eq_true hn15
    have h20' : 20 ≤ id := Nat.le_of_ble_eq_true h20
    obtain ⟨c1, c2, c3⟩ := cut_get hcut
    simp only [ASt.bel, Bool.and_eq_true] at hbel
    obtain ⟨⟨hb20, hbF⟩, hbB⟩ := hbel
    have hb20' : 20 ≤ base := Nat.le_of_ble_eq_true hb20
    have hnb : ∀ i b, lk st.tb i = some b → ¬ (base ≤ i ∧ i < base + 16) := fun i b hi => (belB_ok hbB hi).1
    have hidn := hnb id _ hl
    generalize hT2 : ((id, Blk.row e (.hol s) (l.set k (y, false)) true) :: movB base cs) ++ erl [] st.tb = T2
    have hT : ∀ i, lk T2 i = if i = id then some (Blk.row e (.hol s) (l.set k (y, false)) true) else (lk (movB base cs) i).or (lk st.tb i) := fun i => by
     rw [← hT2, List.cons_append, lk_cons, lk_append, lk_erl]
     simp
    have hrng : ∀ i b, base ≤ i ∧ i < base + 16 → lk T2 i = some b → ∃ (j : Nat) (t : Ty) (x : List t.den), i = base + j ∧ cs[j]? = some ⟨.list t, x⟩ ∧ b = .row none t x true := fun i b hi hb => by
     rw [hT, if_neg (fun (e4 : i = id) => hidn (by rw [← e4]; exact hi))] at hb
     cases hm : lk (movB base cs) i with
     | some b' =>
      rw [hm] at hb
      simp only [Option.some_or, Option.some.injEq] at hb
      subst hb
      exact movB_lk _ _ _ _ hm
     | none =>
      rw [hm] at hb
      simp only [Option.none_or] at hb
      exact absurd hi (hnb i b hb)
    have hout : ∀ i, ¬ (base ≤ i ∧ i < base + 16) → i ≠ id → lk T2 i = lk st.tb i := fun i hi hne => by
     rw [hT, if_neg hne]
     cases hm : lk (movB base cs) i with
     | some b' =>
      obtain ⟨j, t', x', g1, g2, _⟩ := movB_lk _ _ _ _ hm
      have := (List.getElem?_eq_some_iff.1 g2).1
      exact absurd (by omega) hi
     | none => rfl
    generalize hE1 : E.mov id base k off g S = E1
    have Ehd : E1.hd = E.hd := by rw [← hE1]; rfl
    have Ero : E1.ro = E.ro := by rw [← hE1]; rfl
    have Ehv : ∀ i, ¬ (base ≤ i ∧ i < base + 16) → E1.hv i = E.hv i := fun i hi => by rw [← hE1]; simp only [Env.mov, if_neg hi]
    have Ehv' : ∀ j, j < 16 → E1.hv (base + j) = g k (off + j) := fun j hj => by rw [← hE1]; simp only [Env.mov]; rw [if_pos ⟨by omega, by omega⟩, Nat.add_sub_cancel_left]
    have Ebs : ∀ i, ¬ (base ≤ i ∧ i < base + 16) → i ≠ id → E1.bs i = E.bs i := fun i hi hne => by rw [← hE1]; funext b; simp only [Env.mov, if_neg hi, if_neg hne]
    have Eid : ∀ b, E1.bs id b ↔ (E.bs id b ∧ ∀ j, ¬ S k j b) := fun b => by rw [← hE1]; simp only [Env.mov, if_neg hidn, if_true]
    have Ebs' : ∀ j, j < 16 → E1.bs (base + j) = S k (off + j) := fun j hj => by rw [← hE1]; funext b; simp only [Env.mov]; rw [if_pos ⟨by omega, by omega⟩, Nat.add_sub_cancel_left]
    have hCid : ∀ i b, (i = id ∨ (base ≤ i ∧ i < base + 16)) → E1.bs i b → E.bs id b := fun i b hC hb => by
     rcases hC with rfl | hC
     ·exact ((Eid b).1 hb).1
     ·obtain ⟨j, rfl⟩ : ∃ j, i = base + j := ⟨i - base, by omega⟩
      rw [Ebs' j (by omega)] at hb
      exact (hS _ _ _ hb).1
    have hch : ∀ fr', Chg st E w ⟨fr', T2, st.nx⟩ E1 w (fun i => i = id ∨ (base ≤ i ∧ i < base + 16)) := fun fr' => by
     refine ⟨fun i hi => ?_, fun _ _ _ => rfl, Nat.le_refl _, fun i b hC _ hb => ⟨(h.mine id b hls (hCid i b hC hb)).1, .inl ⟨id, .inl rfl, hls, hCid i b hC hb⟩⟩, fun i i' b hC hC' _ _ hb hb' => ?_, Ero, rfl, rfl, rfl⟩
     ·have n1 : ¬ (base ≤ i ∧ i < base + 16) := fun hr => hi (.inr hr)
      have n2 : i ≠ id := fun e => hi (.inl e)
      exact ⟨hout i n1 n2, by rw [Ehd], Ehv i n1, Ebs i n1 n2⟩
     ·rcases hC with rfl | hC <;> rcases hC' with rfl | hC'
      ·rfl
      ·obtain ⟨j, rfl⟩ : ∃ j, i' = base + j := ⟨i' - base, by omega⟩
       rw [Ebs' j (by omega)] at hb'
       exact absurd hb' (((Eid b).1 hb).2 _)
      ·obtain ⟨j, rfl⟩ : ∃ j, i = base + j := ⟨i - base, by omega⟩
       rw [Ebs' j (by omega)] at hb
       exact absurd hb (((Eid b).1 hb').2 _)
      ·obtain ⟨j, rfl⟩ : ∃ j, i = base + j := ⟨i - base, by omega⟩
       obtain ⟨j', rfl⟩ : ∃ j, i' = base + j := ⟨i' - base, by omega⟩
       rw [Ebs' j (by omega)] at hb
       rw [Ebs' j' (by omega)] at hb'
       have := (hSd _ _ _ _ b hb hb').2
       omega
    have hk' : ∀ i X, ¬ (base ≤ i ∧ i < base + 16) → (i ∈ [id] → ¬ X) → KeepId w E st.tb w E1 T2 i X := fun i X hi hX => by
     by_cases hne : i = id
     ·subst hne
      refine ⟨fun f vs hl' => ?_, fun e' t' l' d' hl' => ?_⟩
      ·rw [hT, if_pos rfl] at hl'; cases hl'
      ·rw [hT, if_pos rfl] at hl'
       cases hl'
       exact ⟨e, l, true, hl, Ehv i hi, by simp, fun hx => absurd hx (hX (by simp))⟩
     ·exact (hch []).keep h (fun hc => hc.elim hne hi) X
    -- the load
    have hcellk : ∀ j, j < n → ∃ cl, cs[j]? = some cl ∧ (s.cells y)[off + j]? = some cl ∧ w.cell? ⟨b0, k * (Ty.hol s).wd + off + j, none⟩ = some (g k (off + j)) ∧ OwnC w (S k (off + j)) (g k (off + j)) cl := fun j hj => by
     obtain ⟨cl, hcl⟩ : ∃ cl, (s.cells y)[off + j]? = some cl := ⟨_, List.getElem?_eq_getElem (by omega)⟩
     refine ⟨cl, by rw [c3 j hj]; exact hcl, hcl, ?_, hown _ _ hcl⟩
     rw [cell_of_row w b0 _ cur eT (0, 0) hh, Nat.add_assoc]
     exact hg k (y, true) (off + j) cl hy hcl
    obtain ⟨u, h1, h2⟩ := load_ok (P := P) (w := w) (E := E1) (tb := T2) (b := b0) (off := k * (Ty.hol s).wd + off) ht (us := (List.range n).map fun j => g k (off + j)) (l := movA base cs) (by rw [movA_len, c1]) (by simp) (fun j u hj => by
      simp only [List.getElem?_map, Option.map_eq_some_iff] at hj
      obtain ⟨i, hi, rfl⟩ := hj
      obtain ⟨hi1, hi2⟩ := List.getElem?_eq_some_iff.1 hi
      simp at hi1 hi2
      subst hi2
      obtain ⟨cl, _, _, g3, _⟩ := hcellk j hi1
      exact g3) (fun j z u hj hu => by
      simp only [List.getElem?_map, Option.map_eq_some_iff] at hu
      obtain ⟨i, hi, rfl⟩ := hu
      obtain ⟨hi1, hi2⟩ := List.getElem?_eq_some_iff.1 hi
      simp at hi1 hi2
      subst hi2
      obtain ⟨cl, g1, g2, g3, g4⟩ := hcellk j hi1
      rw [movA_get, g1] at hj
      simp only [Option.map_some, Option.some.injEq] at hj
      refine ⟨g4.one, ?_⟩
      obtain ⟨tc, xc⟩ := cl
      cases tc
      case list t' =>
       subst hj
       exact ⟨g4.one, fun e' t'' l'' d' hl' => ⟨t'', l'', by rw [Ehv' j (by omega)]; exact .here⟩⟩
      all_goals
       subst hj
       exact (g4.rep.scalar (fun _ _ e => by cases e) : RepC w (Fz w E1 T2) _ _)) hv
    have hrun := run_loadOp ho (a := a) (v := .pointer (some ⟨b0, k * (Ty.hol s).wd + off, none⟩)) hpt h1
    have hsat : Sat W0 E0 nl N ⟨putF o.dst v (killF [id] st.fr), T2, st.nx⟩ E1 (a.put o.dst u) w := by
     have hgood : ∀ (i : Nat) (z : AV), lk (killF [id] st.fr) i = some z → lk st.fr i = some z ∧ GoodV w E st.tb w E1 T2 z := fun i z hz => by
      obtain ⟨h1, h2⟩ := killF_ok hz
      exact ⟨h1, goodV_bel (belF_ok hbF h1) h2 hk'⟩
     refine h.chg (hch _) (fun j z hz => ?_) (fun i f vs hC hl' => goodL_bel ((belB_ok hbB hl').2 f vs rfl) (.inr (boxT_ok hbox i f vs hl')) hk') (fun i b hC hl' => ?_) (fun i hi hC _ => ?_) ?_ ?_
     ·cases hdst : o.dst with
      | none =>
       rw [hdst] at hz
       obtain ⟨g1, g2⟩ := hgood j z hz
       exact .inl ⟨g1, rfl, g2⟩
      | some d =>
       rw [hdst] at hz
       have hz2 : lk ((d, v) :: killF [id] st.fr) j = some z := hz
       rw [lk_cons] at hz2
       split at hz2
       ·rename_i e3
        subst e3
        injection hz2 with hz2
        subst hz2
        exact .inr ⟨u, by simp [Act.put, h.size, hd _ hdst], h2⟩
       ·rename_i e3
        obtain ⟨g1, g2⟩ := hgood j z hz2
        exact .inl ⟨g1, by simp only [Act.put]; rw [Array.getElem?_setIfInBounds_ne (fun e' => e3 e'.symm)], g2⟩
     ·have hl2 : lk T2 i = some b := hl'
      by_cases hne : i = id
      ·subst hne
       rw [hT, if_pos rfl] at hl2
       injection hl2 with hl2
       subst hl2
       show RowOk w (Fz w E1 T2) (E1.bs i) e (E1.hv i) (.hol s) (l.set k (y, false)) true
       rw [Ehv i hidn, ← e1]
       have hlen : (l.set k (y, false)).length = l.length := by simp
       rw [← hlen]
       have hnew : ∀ (p : Nat) (z : s.den × Bool) (j : Nat) (cl : Cell), (l.set k (y, false))[p]? = some z → ((Ty.hol s).cells z)[j]? = some cl → (p = k ∧ ∃ cl0, (s.cells y)[j]? = some cl0 ∧ cl = junkC cl0) ∨ (p ≠ k ∧ l[p]? = some z) := fun p z j cl hp hj => by
        rw [List.getElem?_set] at hp
        by_cases hpk : k = p
        ·subst hpk
         rw [if_pos rfl, if_pos hk] at hp
         injection hp with hp
         subst hp
         simp only [Ty.cells, holC, List.getElem?_map, Option.map_eq_some_iff] at hj
         obtain ⟨cl0, g1, g2⟩ := hj
         exact .inl ⟨rfl, cl0, g1, g2.symm⟩
        ·rw [if_neg hpk] at hp
         exact .inr ⟨fun e => hpk e.symm, hp⟩
       refine .inr ⟨b0, c0, eT, cur, g, fun p j d => p ≠ k ∧ S p j d, rfl, (Eid b0).2 ⟨hB, fun j hj => (hS k j b0 hj).2 rfl⟩, hh, he, hsz, by rw [hlen]; exact hc, hm, fun p z j cl hp hj => ?_, fun p j d hd => ⟨(Eid d).2 ⟨(hS p j d hd.2).1, fun j' hj' => hd.1 (hSd p j k j' d hd.2 hj').1⟩, (hS p j d hd.2).2⟩, fun p j p' j' d hd hd' => hSd p j p' j' d hd.2 hd'.2, fun p z j cl hp hj => ?_⟩
       ·rcases hnew p z j cl hp hj with ⟨rfl, cl0, g1, _⟩ | ⟨_, g1⟩
        ·exact hg p (y, true) j cl0 hy g1
        ·exact hg p z j cl g1 hj
       ·simp only [if_true]
        rcases hnew p z j cl hp hj with ⟨rfl, cl0, g1, rfl⟩ | ⟨hpk, g1⟩
        ·have g2 := hown j cl0 g1
         obtain ⟨tc, xc⟩ := cl0
         cases tc
         case list t' => exact .junk g2.one
         all_goals exact ownC_scalar g2 (fun _ _ e => by cases e) w _
        ·have g2 := hr p z j cl g1 hj
         simp only [if_true] at g2
         exact g2.mono fun d hd => ⟨⟨hpk, hd⟩, rfl⟩
      ·have hi : base ≤ i ∧ i < base + 16 := hC.resolve_left hne
       obtain ⟨j, t', x', g1, g2, rfl⟩ := hrng i b hi hl2
       subst g1
       have hj : j < n := by rw [← c1]; exact (List.getElem?_eq_some_iff.1 g2).1
       obtain ⟨cl, k1, _, _, k4⟩ := hcellk j hj
       rw [g2] at k1
       injection k1 with k1
       subst k1
       show RowOk w (Fz w E1 T2) (E1.bs (base + j)) none (E1.hv (base + j)) t' x' true
       rw [Ehv' j (by omega), Ebs' j (by omega)]
       exact k4.row
     ·rcases hC with rfl | hC
      ·omega
      ·omega
     ·cases o.dst <;> exact h.defers
     ·cases o.dst <;> simp [Act.put, h.size]
    have hout2 : (movS P base st t id k off e s l).outs { val := v, ins := (id, .row e (.hol s) (l.set k (y, false)) true) :: movB base cs, kill := [id] } := by
     refine hout0 _ ((opt_outs _ _ _).2 ⟨(n, ag), ht, y, hy, hok, (opt_outs _ _ _).2 ⟨cs, hcut, ?_⟩⟩)
     rw [hn15]
     exact (opt_outs _ _ _).2 ⟨v, hv, rfl⟩
    unfold Oper.wp
    rw [hrun]
    refine ⟨_, E1, hout2, ?_⟩
    show Sat W0 E0 nl N ⟨putF o.dst v (killF [id] st.fr), ((id, Blk.row e (.hol s) (l.set k (y, false)) true) :: movB base cs) ++ erl [] st.tb, st.nx⟩ E1 (a.put o.dst u) w
    rw [hT2]
    exact hsat
   ·cases hr
  ·cases hr
end
end Go.Proofs.YtpgglbnagphgoaaGreat
/- Every operation: what the step says, the model does. -/
namespace Go.Proofs.YtpgglbnagphgoaaGreat
open Go.RowKit
open SR (opt)

section
variable {P : Program} {Γ : Cfg} {W0 w w' : World} {E0 E E' E1 E2 : Env} {nl N base : Nat} {st : ASt} {a : Act} {o : Oper} {tb T tb2 : Tb} {bs : List Nat}

theorem ValOk.wp (h : Sat W0 E0 nl N st E a w) (hd : ∀ d, o.dst = some d → d < N) {r : SR} (hv : ValOk P E st a w o r) (Q : Exit → Act → World → Prop) : o.wp P a w (After W0 E0 nl N st o r) Q := by
 obtain ⟨u, v, h1, h2, h3⟩ := hv
 exact val_op h hd h1 h2 h3 Q
theorem step_ok (h : Sat W0 E0 nl N st E a w) (hΓ : ∀ f C, Γ.con f = some C → ConOK P f C) (hd : ∀ d, o.dst = some d → d < N) (hp : (step P Γ base o st).pre) (Q : Exit → Act → World → Prop) : o.wp P a w (After W0 E0 nl N st o (step P Γ base o st)) Q := by
 cases ho : o.op with
 | move x => exact (vo_move h (.inl ho) hp).wp h hd Q
 | assign x => exact (vo_move h (.inr ho) hp).wp h hd Q
 | pick c x y => exact (vo_pick h ho hp).wp h hd Q
 | alloc e => exact op_alloc h hd ho hp Q
 | box e x => exact op_box h hd ho hp Q
 | build t parts => exact (vo_build h ho hp).wp h hd Q
 | buildSlice t n parts => exact op_buildSlice h hd ho hp Q
 | load t x =>
  cases hm : movLd P base st t x with
  | some r =>
   have e : step P Γ base o st = r := by simp only [step, ho, hm]
   rw [e] at hp ⊢
   exact mov_ok h hd ho hm hp Q
  | none =>
   have e : step P Γ base o st = loadSR P st t x := by simp only [step, ho, hm]
   rw [e] at hp ⊢
   exact (vo_load h ho hp).wp h hd Q
 | store t x v => exact op_store h hd ho hp Q
 | nilCheck x => exact (vo_nilCheck h ho hp).wp h hd Q
 | binOp op t x y t' => exact (vo_bin h ho hp).wp h hd Q
 | unOp op t x => exact (vo_un h ho hp).wp h hd Q
 | convert s d x => exact (vo_convert h ho hp).wp h hd Q
 | makeFunc fn first captured => cases fn with
  | func f => exact (vo_makeFunc h ho hp).wp h hd Q
  | _ => simp only [step, ho, SR.pre] at hp
 | makeSlice t n c => exact op_makeSlice h hd ho hp Q
 | slice t x lo hi m => cases m with
  | none => exact (vo_slice h ho hp).wp h hd Q
  | some m => simp only [step, ho, SR.pre] at hp
 | fieldAddr s x f => exact (vo_fieldAddr h ho hp).wp h hd Q
 | field s x f => exact (vo_field h ho hp).wp h hd Q
 | indexAddr t x i => exact (vo_indexAddr h ho hp).wp h hd Q
 | index t x i => exact (vo_index h ho hp).wp h hd Q
 | extract x i => exact (vo_extract h ho hp).wp h hd Q
 | call c =>
  cases hc : c.callee with
  | value x => exact op_call h hd hΓ ho hc hp Q
  | invoke r m =>
   simp only [step, ho, hc, opt_pre] at hp
   obtain ⟨_, _, hp⟩ := hp
   exact hp.elim
  | builtin b => cases b with
   | len => exact (vo_len h ho hc hp).wp h hd Q
   | append => exact op_append h hd ho hc hp Q
   | copy => exact op_copy h hd ho hc hp Q
   | max => exact (vo_max h ho hc hp).wp h hd Q
   | min => exact (vo_min h ho hc hp).wp h hd Q
   | _ =>
    simp only [step, ho, hc, opt_pre] at hp
    obtain ⟨_, _, hp⟩ := hp
    exact hp.elim
 | _ => simp only [step, ho, SR.pre] at hp
end
end Go.Proofs.YtpgglbnagphgoaaGreat
/- A call that is lent an inner list of a row of ours. No program is in sight. -/
namespace Go.Proofs.YtpgglbnagphgoaaGreat
open Go.RowKit
open SR (opt)

section
variable {w w' : World}
theorem focSR_ok {v v' : Value} {t t' : Ty} {l : List t.den} {l' : List t'.den} {p : List (Nat × Nat)} (hat : At w v t l p v' t' l') : ∀ {B : Nat → Prop} {g : (t1 : Ty) → List t1.den → (List t1.den → (List t.den → SR) → SR) → SR},
  OwnC w B v ⟨.list t, l⟩ → (focSR t l p g).pre →
  ∃ (B' : Nat → Prop) (F : List t'.den → (List t.den → SR) → SR), (∀ b, B' b → B b) ∧ (p ≠ [] → ∀ b o n c, v = .slice (some ⟨b, o, none⟩) n c → ¬ B' b) ∧ OwnC w B' v' ⟨.list t', l'⟩ ∧ (g t' l' F).pre ∧ (∀ e, (g t' l' F).outs e → (focSR t l p g).outs e) ∧
   ∀ (l1 : List t'.den) (f : List t.den → SR), l1.length = l'.length → (F l1 f).pre → ∃ l2 : List t.den, (f l2).pre ∧ (∀ e, (f l2).outs e → (F l1 f).outs e) ∧ l2.length = l.length ∧
    ∀ (w' : World) (B'' : Nat → Prop), (∀ b, B b → ¬ B' b → w'.heap[b]? = w.heap[b]?) → (∀ b, B'' b → B b → B' b) → OwnC w' B'' v' ⟨.list t', l1⟩ →
     OwnC w' (fun b => (B b ∧ ¬ B' b) ∨ B'' b) v ⟨.list t, l2⟩ := by
 induction hat with
 | @here v t l =>
  intro B g ho hp
  refine ⟨B, fun m f => f m, fun b h => h, fun h => absurd rfl h, ho, hp, fun e he => he, fun l1 f hl1 hf => ⟨l1, hf, fun e he => he, hl1, fun w' B'' _ _ h => h.mono' (fun b hb => .inr hb)⟩⟩
 | @step b o n c k off t t1 t' l l1 l' p x v1 v' hx hn hc hat ih =>
  intro B g ho hp
  have hp0 := elSR_pre hx hp
  simp only [hn] at hp0
  rw [nth_eq] at hn
  generalize hv0 : Value.slice (some ⟨b, o, none⟩) n c = v0 at ho
  generalize hcell : (⟨.list t, l⟩ : Cell) = c0 at ho
  cases ho with
  | junk => cases hcell
  | int => cases hcell
  | bool => cases hcell
  | str => cases hcell
  | nil => cases hv0
  | @list _ t0 l0 b0 c0 e0 cur G S hB hh hs hcc hm hg hS hSd hr =>
   injection hcell with e1 e2
   injection e1 with e1
   subst e1
   cases e2
   injection hv0 with e3 e4 e5
   injection e3 with e3
   injection e3 with e6 e7
   subst e6 e7 e4 e5
   have hG : v1 = G k off := by
    rw [cell_of_row w b _ cur e0 (0, 0) hh, Nat.zero_add, hg k x off _ hx hn] at hc
    injection hc with hc
    exact hc.symm
   subst hG
   obtain ⟨B', F0, h1, _, h2, h3, h4, h5⟩ := ih (hr k x off _ hx hn) hp0
   refine ⟨B', fun m f => F0 m fun l'' => opt (ovr (t.cells x) off [⟨.list t1, l''⟩]) fun cs => opt (t.mk cs) fun x' => f (l.set k x'), fun b hb => (hS k off b (h1 b hb)).1, fun _ b2 o2 n2 c2 e2 hb2 => by injection e2 with e2; injection e2 with e2; injection e2 with e2; exact (hS k off b2 (h1 b2 hb2)).2 e2.symm, h2, h3, fun e he => elSR_outs hx hn (by rw [nth_eq, hn]; exact h4 e he), fun l1' f hl1 hf => ?_⟩
   obtain ⟨l2, g1, g2, g3, g4⟩ := h5 l1' _ hl1 hf
   obtain ⟨cs, hov, g1⟩ := (opt_pre _ _).1 g1
   obtain ⟨x', hmk, g1⟩ := (opt_pre _ _).1 g1
   have hx' := Ty.mk_eq hmk
   obtain ⟨ov1, ov2, ov3⟩ := ovr_get hov
   have hkl : k < l.length := (List.getElem?_eq_some_iff.1 hx).1
   have hcx : ∀ j, (t.cells x')[j]? = if j = off then some ⟨.list t1, l2⟩ else (t.cells x)[j]? := fun j => by
    rw [hx', ov3 j]
    by_cases hj : j = off
    ·subst hj; simp
    ·rw [if_neg (by simp; omega), if_neg hj]
   have hnew : ∀ (i : Nat) (z : t.den) (j : Nat) (u : Cell), (l.set k x')[i]? = some z → (t.cells z)[j]? = some u → (i = k ∧ j = off ∧ u = ⟨.list t1, l2⟩) ∨ (¬ (i = k ∧ j = off) ∧ ∃ z0, l[i]? = some z0 ∧ (t.cells z0)[j]? = some u) := fun i z j u hi hj => by
    rw [List.getElem?_set] at hi
    by_cases hik : k = i
    ·subst hik
     rw [if_pos rfl, if_pos hkl] at hi
     injection hi with hi
     subst hi
     rw [hcx] at hj
     by_cases hjo : j = off
     ·rw [if_pos hjo] at hj; injection hj with hj; exact .inl ⟨rfl, hjo, hj.symm⟩
     ·rw [if_neg hjo] at hj; exact .inr ⟨fun hh => hjo hh.2, x, hx, hj⟩
    ·rw [if_neg hik] at hi
     exact .inr ⟨fun hh => hik hh.1.symm, z, hi, hj⟩
   refine ⟨l.set k x', g1, fun e he => g2 e ((opt_outs _ _ _).2 ⟨cs, hov, (opt_outs _ _ _).2 ⟨x', hmk, he⟩⟩), by simp, fun w' B'' hheap hB'' hown => ?_⟩
   have hbB' : ¬ B' b := fun hb => (hS k off b (h1 b hb)).2 rfl
   have hbb : w'.heap[b]? = w.heap[b]? := hheap b hB hbB'
   have k1 := g4 w' B'' (fun d hd hn => hheap d (hS k off d hd).1 hn) (fun d hd hd' => hB'' d hd (hS k off d hd').1) hown
   have hB''b : ¬ B'' b := fun hb => hbB' (hB'' b hb hB)
   have hoth : ∀ i j d, ¬ (i = k ∧ j = off) → S i j d → ¬ B' d ∧ ¬ B'' d ∧ w'.heap[d]? = w.heap[d]? := fun i j d hij hd => by
    have hn : ¬ B' d := fun hh => hij (hSd i j k off d hd (h1 d hh))
    exact ⟨hn, fun hh => hn (hB'' d hh (hS i j d hd).1), hheap d (hS i j d hd).1 hn⟩
   have hlen : (l.set k x').length = l.length := by simp
   rw [← hlen]
   refine .list (b := b) (cur := cur) (e := e0) G (fun i j d => if i = k ∧ j = off then (S k off d ∧ ¬ B' d) ∨ B'' d else S i j d) (.inl ⟨hB, hbB'⟩) (by rw [hbb]; exact hh) hs (by rw [hlen]; exact hcc) hm (fun i z j u hi hj => ?_) (fun i j d hd => ?_) (fun i j i' j' d hd hd' => ?_) (fun i z j u hi hj => ?_)
   ·rcases hnew i z j u hi hj with ⟨rfl, rfl, _⟩ | ⟨_, z0, q1, q2⟩
    ·exact hg _ x _ _ hx hn
    ·exact hg i z0 j u q1 q2
   ·by_cases hij : i = k ∧ j = off
    ·rw [if_pos hij] at hd
     rcases hd with ⟨q1, q2⟩ | q
     ·exact ⟨.inl ⟨(hS k off d q1).1, q2⟩, (hS k off d q1).2⟩
     ·exact ⟨.inr q, fun e => hB''b (e ▸ q)⟩
    ·rw [if_neg hij] at hd
     exact ⟨.inl ⟨(hS i j d hd).1, (hoth i j d hij hd).1⟩, (hS i j d hd).2⟩
   ·by_cases hij : i = k ∧ j = off <;> by_cases hij' : i' = k ∧ j' = off
    ·exact ⟨hij.1.trans hij'.1.symm, hij.2.trans hij'.2.symm⟩
    ·rw [if_pos hij] at hd; rw [if_neg hij'] at hd'
     rcases hd with ⟨q1, q2⟩ | q
     ·exact absurd (hSd i' j' k off d hd' q1) hij'
     ·exact absurd q (hoth i' j' d hij' hd').2.1
    ·rw [if_neg hij] at hd; rw [if_pos hij'] at hd'
     rcases hd' with ⟨q1, q2⟩ | q
     ·exact absurd (hSd i j k off d hd q1) hij
     ·exact absurd q (hoth i j d hij hd).2.1
    ·rw [if_neg hij] at hd; rw [if_neg hij'] at hd'
     exact hSd i j i' j' d hd hd'
   ·rcases hnew i z j u hi hj with ⟨rfl, rfl, rfl⟩ | ⟨hij, z0, q1, q2⟩
    ·exact k1.mono' fun d hd => by rw [if_pos ⟨rfl, rfl⟩]; exact hd
    ·refine (hr i z0 j u q1 q2).mono fun d hd => ⟨by rw [if_neg hij]; exact hd, (hoth i j d hij hd).2.2⟩
end

section
variable {P : Program} {Γ : Cfg} {W0 w w' : World} {E0 E E' E1 E2 : Env} {nl N base : Nat} {st : ASt} {a : Act} {o : Oper} {tb T tb2 : Tb} {bs : List Nat}

theorem innerA_ok : ∀ {ps : List PT} {vs : List AV} {k n id : Nat} {p : List (Nat × Nat)}, innerA ps vs k = some (n, id, p) → k ≤ n ∧ vs[n - k]? = some (.one (.sl id p)) := by
 intro ps
 induction ps with
 | nil => intro vs k n id p h; cases vs <;> cases h
 | cons q ps ih =>
  intro vs k n id p h
  cases vs with
  | nil => cases q <;> cases h
  | cons v vs =>
   have hrec : innerA ps vs (k + 1) = some (n, id, p) → k ≤ n ∧ (v :: vs)[n - k]? = some (.one (.sl id p)) := fun h => by
    obtain ⟨h1, h2⟩ := ih h
    refine ⟨by omega, ?_⟩
    rw [show n - k = (n - (k + 1)) + 1 by omega]
    simpa using h2
   unfold innerA at h
   split at h
   ·rename_i e1 e2 e3
    injection e2 with e2 e4
    subst e2
    injection h with h
    injection h with h1 h2
    injection h2 with h2 h3
    subst h1 h2 h3
    rename_i e3 e4
    injection e3 with e3
    exact ⟨Nat.le_refl _, by simp [e3]⟩
   ·rename_i e1 e2
    cases e1; cases e2
    exact hrec h
   ·cases h
theorem thru1_cons {i : Nat} {k : List Nat} {x : A1} (h : thru1 (i :: k) x = false) : thru1 [i] x = false ∧ thru1 k x = false := by
 have key : ∀ j, mem? (i :: k) j = false → mem? [i] j = false ∧ mem? k j = false := fun j h => by
  simp only [mem?] at h ⊢
  cases hb : Nat.beq i j with
  | true => rw [hb] at h; cases h
  | false => rw [hb] at h; exact ⟨rfl, h⟩
 cases x with
 | sl j p => cases p with
  | nil => exact ⟨rfl, rfl⟩
  | cons => exact key j h
 | ptr j p => cases p with
  | nil => exact ⟨rfl, rfl⟩
  | cons => exact key j h
 | _ => exact ⟨rfl, rfl⟩
theorem thruL_cons {i : Nat} {k : List Nat} {l : List A1} (h : thruL (i :: k) l = false) : thruL [i] l = false ∧ thruL k l = false := by
 induction l with
 | nil => exact ⟨rfl, rfl⟩
 | cons x l ih =>
  simp only [thruL, Bool.or_eq_false_iff] at h ⊢
  exact ⟨⟨(thru1_cons h.1).1, (ih h.2).1⟩, ⟨(thru1_cons h.1).2, (ih h.2).2⟩⟩
theorem thruT_cons {i : Nat} {k : List Nat} {l : List (Bool × List A1)} (h : thruT (i :: k) l = false) : thruT [i] l = false ∧ thruT k l = false := by
 induction l with
 | nil => exact ⟨rfl, rfl⟩
 | cons x l ih =>
  simp only [thruT, Bool.or_eq_false_iff] at h ⊢
  exact ⟨⟨(thruL_cons h.1).1, (ih h.2).1⟩, ⟨(thruL_cons h.1).2, (ih h.2).2⟩⟩
theorem thru_cons {i : Nat} {k : List Nat} {v : AV} (h : v.thru (i :: k) = false) : v.thru [i] = false ∧ v.thru k = false := by
 cases v with
 | one x => exact thru1_cons h
 | agg l => exact thruL_cons h
 | tup l => exact thruT_cons h
theorem dropT_stay {ids : List Nat} {fr : Fr} {i : Nat} {v : AV} (h : lk fr i = some v) (hv : v.thru ids = false) : lk (dropT ids fr) i = some v := by
 induction fr with
 | nil => cases h
 | cons q fr ih =>
  obtain ⟨j, u⟩ := q
  rw [lk_cons] at h
  simp only [dropT]
  by_cases e : i = j
  ·rw [if_pos e] at h
   injection h with h
   subst h e
   rw [hv]
   simp only [cond_false]
   rw [lk_cons, if_pos rfl]
  ·rw [if_neg e] at h
   cases hu : u.thru ids with
   | true => simp only [cond_true]; rw [lk_erl, if_neg (by simpa using e)]; exact ih h
   | false => simp only [cond_false]; rw [lk_cons, if_neg e]; exact ih h
theorem killF_stay {kill : List Nat} {fr : Fr} {i : Nat} {v : AV} (h : lk fr i = some v) (hv : v.thru kill = false) : lk (killF kill fr) i = some v := by
 cases kill with
 | nil => exact h
 | cons k ks => exact dropT_stay h hv

def Env.foc (E : Env) (id : Nat) (B' : Nat → Prop) (u : Value) : Env := {
 hd := E.hd
 hv := fun i => if i = 19 then u else E.hv i
 bs := fun i => if i = 19 then B' else E.bs i
 ro := fun b => E.ro b ∧ ¬ (E.bs id b ∧ ¬ B' b) }
def Env.zero (E : Env) (tb : Tb) : Env := {
 hd := E.hd
 hv := E.hv
 bs := fun i b => (i < 20 ∧ E.bs i b ∧ (lk tb i).isSome = true) ∨ (i = 20 ∧ ∃ j, (lk tb j).isSome = true ∧ E.bs j b)
 ro := E.ro }
def Env.unfoc (E E2 : Env) (id : Nat) (B' : Nat → Prop) : Env := {
 hd := E2.hd
 hv := fun i => if i = id then E.hv id else E2.hv i
 bs := fun i => if i = id then fun b => (E.bs id b ∧ ¬ B' b) ∨ E2.bs 19 b else E2.bs i
 ro := E.ro }

theorem repA_off {w : World} {E E1 : Env} {tb tb1 : Tb} {u : Value} {x : A1} (hf : ∀ b, Fz w E tb b → Fz w E1 tb1 b) (h : RepA w E tb u x) (hm : ∀ i, men1 i x = true → (lk tb1 i = none ∨ (lk tb1 i = lk tb i ∧ E1.hd i = E.hd i ∧ E1.hv i = E.hv i))) : RepA w E1 tb1 u x := by
 have self : ∀ i, Nat.beq i i = true := Nat.beq_refl
 have hr : ∀ {i off : Nat} {v : Value}, (lk tb1 i = none ∨ (lk tb1 i = lk tb i ∧ E1.hd i = E.hd i ∧ E1.hv i = E.hv i)) → refOk E tb v i off → refOk E1 tb1 v i off := fun {i off v} hi h f vs hl => by
  rcases hi with hi | ⟨h1, h2, _⟩
  ·rw [hi] at hl; cases hl
  ·rw [h2]; exact h f vs (h1 ▸ hl)
 cases x with
 | c x => exact RepC.mono h (fun b hb _ => ⟨hf b hb, rfl⟩) (Nat.le_refl _)
 | lit b => exact h
 | nil => exact h
 | val v => exact h
 | ref i off => exact ⟨h.1, hr (hm i (self i)) h.2⟩
 | roe t l k off =>
  obtain ⟨b, o, g, h1, h2, h3, h4⟩ := h
  exact ⟨b, o, g, h1, hf b h2, h3, fun i x j u hx hu => ⟨(h4 i x j u hx hu).1, (h4 i x j u hx hu).2.mono (fun b hb _ => ⟨hf b hb, rfl⟩) (Nat.le_refl _)⟩⟩
 | ptr i p k off =>
  refine ⟨h.1, fun e t l d hl => ?_⟩
  rcases hm i (self i) with hi | ⟨h1, _, h3⟩
  ·rw [hi] at hl; cases hl
  ·rw [h3]; exact h.2 e t l d (h1 ▸ hl)
 | sl i p =>
  refine ⟨h.1, fun e t l d hl => ?_⟩
  rcases hm i (self i) with hi | ⟨h1, _, h3⟩
  ·rw [hi] at hl; cases hl
  ·rw [h3]; exact h.2 e t l d (h1 ▸ hl)
 | sub i lo n =>
  refine ⟨h.1, fun e t l d hl => ?_⟩
  rcases hm i (self i) with hi | ⟨h1, _, h3⟩
  ·rw [hi] at hl; cases hl
  ·rw [h3]; exact h.2 e t l d (h1 ▸ hl)
 | fn f caps =>
  obtain ⟨arr, h1, h2, h3⟩ := h
  refine ⟨arr, h1, h2, fun i j hj => ?_⟩
  obtain ⟨u, g1, g2, g3⟩ := h3 i j hj
  exact ⟨u, g1, g2, hr (hm j ((mem?_iff _ _).2 (List.mem_of_getElem? hj))) g3⟩
theorem repL_off {w : World} {E E1 : Env} {tb tb1 : Tb} {u : Array Value} {l : List A1} (h : RepL w E tb u l) (hc : ∀ u x, x ∈ l → RepA w E tb u x → RepA w E1 tb1 u x) : RepL w E1 tb1 u l :=
 ⟨h.1, fun i x hi => let ⟨v, h1, h2, h3⟩ := h.2 i x hi; ⟨v, h1, h2, hc v x (List.mem_of_getElem? hi) h3⟩⟩
def AV.all1 (p : A1 → Prop) : AV → Prop
 | .one a => p a
 | .agg l => ∀ x ∈ l, p x
 | .tup l => ∀ c ∈ l, ∀ x ∈ c.2, p x
theorem repV_off {w : World} {E E1 : Env} {tb tb1 : Tb} {u : Value} {v : AV} {p : A1 → Prop} (hv : v.all1 p) (h : RepV w E tb u v) (hc : ∀ u x, p x → RepA w E tb u x → RepA w E1 tb1 u x) : RepV w E1 tb1 u v := by
 cases v with
 | one x => exact hc u x hv h
 | agg l =>
  obtain ⟨arr, h1, h2⟩ := h
  exact ⟨arr, h1, repL_off h2 fun u x hx => hc u x (hv x hx)⟩
 | tup l =>
  obtain ⟨arr, h1, h2, h3⟩ := h
  refine ⟨arr, h1, h2, fun i c hi => ?_⟩
  obtain ⟨u, g1, g2⟩ := h3 i c hi
  have hm := hv c (List.mem_of_getElem? hi)
  refine ⟨u, g1, ?_⟩
  obtain ⟨ag, m⟩ := c
  cases ag with
  | true =>
   obtain ⟨arr', k1, k2⟩ := g2
   exact ⟨arr', k1, repL_off k2 fun u x hx => hc u x (hm x hx)⟩
  | false =>
   obtain ⟨y, k1, k2⟩ := g2
   exact ⟨y, k1, hc u y (hm y (by show y ∈ m; rw [show m = [y] from k1]; simp)) k2⟩
theorem repV_off2 {w w0 : World} {E E1 E2 : Env} {tb tb1 tb2 : Tb} {u : Value} {v : AV} {p : A1 → Prop} (hv : v.all1 p) (h : RepV w E tb u v) (h' : RepV w0 E2 tb2 u v) (hc : ∀ u x, p x → RepA w E tb u x → RepA w0 E2 tb2 u x → RepA w E1 tb1 u x) : RepV w E1 tb1 u v := by
 have L : ∀ {arr : Array Value} {l : List A1}, (∀ x ∈ l, p x) → RepL w E tb arr l → RepL w0 E2 tb2 arr l → RepL w E1 tb1 arr l := fun {arr l} hp k1 k2 => by
  refine ⟨k1.1, fun i x hi => ?_⟩
  obtain ⟨v1, a1, a2, a3⟩ := k1.2 i x hi
  obtain ⟨v2, b1, b2, b3⟩ := k2.2 i x hi
  rw [a1] at b1
  injection b1 with b1
  subst b1
  exact ⟨v1, a1, a2, hc v1 x (hp x (List.mem_of_getElem? hi)) a3 b3⟩
 cases v with
 | one x => exact hc u x hv h h'
 | agg l =>
  obtain ⟨arr, h1, h2⟩ := h
  obtain ⟨arr', h3, h4⟩ := h'
  rw [h1] at h3
  injection h3 with h3
  subst h3
  exact ⟨arr, h1, L hv h2 h4⟩
 | tup l =>
  obtain ⟨arr, h1, h2, h3⟩ := h
  obtain ⟨arr', h1', h2', h3'⟩ := h'
  rw [h1] at h1'
  injection h1' with h1'
  subst h1'
  refine ⟨arr, h1, h2, fun i c hi => ?_⟩
  obtain ⟨u, g1, g2⟩ := h3 i c hi
  obtain ⟨u', g1', g2'⟩ := h3' i c hi
  rw [g1] at g1'
  injection g1' with g1'
  subst g1'
  have hm := hv c (List.mem_of_getElem? hi)
  refine ⟨u, g1, ?_⟩
  obtain ⟨ag, m⟩ := c
  cases ag with
  | true =>
   obtain ⟨arr1, k1, k2⟩ := g2
   obtain ⟨arr2, k3, k4⟩ := g2'
   rw [k1] at k3
   injection k3 with k3
   subst k3
   exact ⟨arr1, k1, L hm k2 k4⟩
  | false =>
   obtain ⟨y, k1, k2⟩ := g2
   obtain ⟨y', k3, k4⟩ := g2'
   have k1 : m = [y] := k1
   have k3 : m = [y'] := k3
   rw [k1] at k3
   injection k3 with k3
   subst k3
   exact ⟨y, k1, hc u y (hm y (by show y ∈ m; rw [k1]; simp)) k2 k4⟩
theorem all1_men {id : Nat} {v : AV} (h : v.men id = false) : v.all1 fun x => men1 id x = false := by
 have L : ∀ {l : List A1}, menL id l = false → ∀ x ∈ l, men1 id x = false := fun {l} h x hx => by
  cases hm : men1 id x with
  | false => rfl
  | true =>
   exfalso
   induction l with
   | nil => cases hx
   | cons y l ih =>
    simp only [menL, Bool.or_eq_false_iff] at h
    rcases List.mem_cons.1 hx with rfl | hx
    ·rw [h.1] at hm; cases hm
    ·exact ih h.2 hx
 cases v with
 | one x => exact h
 | agg l => exact L h
 | tup l =>
  intro c hc
  have : menL id c.2 = false := by
   induction l with
   | nil => cases hc
   | cons y l ih =>
    simp only [AV.men, menT, Bool.or_eq_false_iff] at h ih
    rcases List.mem_cons.1 hc with rfl | hc
    ·exact h.1
    ·exact ih h.2 hc
  exact L this
theorem all1_and {p q : A1 → Prop} {v : AV} (h : v.all1 p) (h' : v.all1 q) : v.all1 fun x => p x ∧ q x := by
 cases v with
 | one x => exact ⟨h, h'⟩
 | agg l => exact fun x hx => ⟨h x hx, h' x hx⟩
 | tup l => exact fun c hc x hx => ⟨h c hc x hx, h' c hc x hx⟩
theorem all1_thru {ids : List Nat} {v : AV} (h : v.thru ids = false) : v.all1 fun x => thru1 ids x = false := by
 cases v with
 | one x => exact h
 | agg l => exact fun x hx => thruL_ok h x hx
 | tup l => exact fun c hc x hx => thruL_ok (thruT_ok h c hc) x hx
end
end Go.Proofs.YtpgglbnagphgoaaGreat
/- A call that is lent an inner list: it keeps what is known. No program is in sight. -/
namespace Go.Proofs.YtpgglbnagphgoaaGreat
open Go.RowKit
open SR (opt)

section
variable {P : Program} {Γ : Cfg} {W0 w w' : World} {E0 E E' E1 E2 : Env} {nl N base : Nat} {st : ASt} {a : Act} {o : Oper} {tb T tb2 : Tb} {bs : List Nat}

theorem foc_ok (h : Sat W0 E0 nl N st E a w) (hd : ∀ d, o.dst = some d → d < N) (hΓ : ∀ f C, Γ.con f = some C → ConOK P f C) {r : SR} (hr : focOp Γ base o st = some r) (hp : r.pre) (Q : Exit → Act → World → Prop) : o.guard = none ∧ o.wp P a w (After W0 E0 nl N st o r) Q := by
 unfold focOp at hr
 split at hr
 case h_2 => cases hr
 rename_i c ho hguard
 refine ⟨hguard, ?_⟩
 split at hr
 case h_2 => cases hr
 rename_i f hc
 split at hr
 case h_2 => cases hr
 rename_i args C hargs hC
 split at hr
 case h_2 => cases hr
 rename_i n id p hin
 injection hr with hr
 subst hr
 obtain ⟨_, hn⟩ := innerA_ok hin
 rw [Nat.sub_zero] at hn
 unfold focS at hp ⊢
 cases hl : lk st.tb id with
 | none => rw [hl] at hp; exact hp.elim
 | some b0 => cases b0 with
  | box g vs => rw [hl] at hp; exact hp.elim
  | row ex t l dp => cases dp with
   | false => rw [hl] at hp; exact hp.elim
   | true =>
    simp only [hl] at hp ⊢
    obtain ⟨hck, hp⟩ := bif_bad.1 hp
    rw [hck]
    simp only [cond_true]
    simp only [Bool.and_eq_true, Bool.not_eq_true'] at hck
    obtain ⟨⟨hb19, hf19⟩, hbid⟩ := hck
    obtain ⟨h19, h19b⟩ := menB_ok hb19
    obtain ⟨_, hidb⟩ := menB_ok hbid
    have hls : (lk st.tb id).isSome = true := by rw [hl]; rfl
    have hne : id ≠ 19 := fun e => by rw [← e, hl] at h19; cases h19
    have hrow : RowOk _ _ _ _ _ _ _ true := h.blks id _ hl
    obtain ⟨hal, hev⟩ := evL_ok h hargs
    obtain ⟨xo, hxo, hru⟩ := hev n _ hn
    generalize hu : a.eval xo = u at hru
    obtain ⟨t', l', hat⟩ := hru.2 ex t l true hl
    obtain ⟨B', F, hBB, htop, hown, hp1, hout1, hput⟩ := focSR_ok hat hrow.own hp
    have hpne : p ≠ [] := by
     intro e
     subst e
     have : ∀ {ps : List PT} {vs : List AV} {k : Nat}, innerA ps vs k ≠ some (n, id, []) := by
      intro ps
      induction ps with
      | nil => intro vs k h; cases vs <;> cases h
      | cons q ps ih =>
       intro vs k h
       unfold innerA at h
       split at h
       ·cases h
       ·rename_i e2; cases e2; exact ih h
       ·cases h
     exact this hin
    have htop := htop hpne
    let EF := E.foc id B' u
    let tbF : Tb := (19, .row none t' l' true) :: erl [id] st.tb
    let stF : ASt := ⟨st.fr, tbF, st.nx⟩
    have hFhd : EF.hd = E.hd := rfl
    have hFhv : ∀ j, j ≠ 19 → EF.hv j = E.hv j := fun j hj => by show (if j = 19 then u else E.hv j) = _; rw [if_neg hj]
    have hFbs : ∀ j, j ≠ 19 → EF.bs j = E.bs j := fun j hj => by show (if j = 19 then B' else E.bs j) = _; rw [if_neg hj]
    have hF19 : EF.bs 19 = B' := rfl
    have hFv19 : EF.hv 19 = u := rfl
    have lkF : ∀ j, j ≠ 19 → j ≠ id → lk tbF j = lk st.tb j := fun j h1 h2 => by
     show lk ((19, _) :: erl [id] st.tb) j = _
     rw [lk_cons, if_neg h1, lk_erl, if_neg (by simpa using h2)]
    have lkFid : lk tbF id = none := by
     show lk ((19, _) :: erl [id] st.tb) id = _
     rw [lk_cons, if_neg hne, lk_erl, if_pos (by simp)]
    have lkF19 : lk tbF 19 = some (.row none t' l' true) := by
     show lk ((19, _) :: erl [id] st.tb) 19 = _
     rw [lk_cons, if_pos rfl]
    have hboxF : ∀ j f vs, lk tbF j = some (.box f vs) → lk st.tb j = some (.box f vs) ∧ j ≠ 19 ∧ j ≠ id ∧ menL 19 vs = false ∧ menL id vs = false := fun j f vs hj => by
     by_cases e1 : j = 19
     ·rw [e1, lkF19] at hj; cases hj
     by_cases e2 : j = id
     ·rw [e2, lkFid] at hj; cases hj
     rw [lkF j e1 e2] at hj
     exact ⟨hj, e1, e2, h19b j f vs hj, hidb j f vs (by rw [lk_erl, if_neg (by simpa using e2)]; exact hj)⟩
    -- what is named in the state beside: of the old state or the inner list
    have hsomeF : ∀ j, (lk tbF j).isSome = true → j = 19 ∨ (j ≠ 19 ∧ j ≠ id ∧ (lk st.tb j).isSome = true) := fun j hj => by
     by_cases e1 : j = 19
     ·exact .inl e1
     by_cases e2 : j = id
     ·rw [e2, lkFid] at hj; cases hj
     exact .inr ⟨e1, e2, by rw [← lkF j e1 e2]; exact hj⟩
    have hofF : ∀ j b, (lk tbF j).isSome = true → EF.bs j b → ∃ k, (lk st.tb k).isSome = true ∧ E.bs k b ∧ (k = id → B' b) := fun j b hj hb => by
     rcases hsomeF j hj with e | ⟨e1, e2, e3⟩
     ·subst e; exact ⟨id, hls, hBB b hb, fun _ => hb⟩
     ·rw [hFbs j e1] at hb; exact ⟨j, e3, hb, fun e => absurd e e2⟩
    have hnotF : ∀ b, E.bs id b → ¬ B' b → ∀ j, (lk tbF j).isSome = true → ¬ EF.bs j b := fun b h1 h2 j hj hb => by
     obtain ⟨k, k1, k2, k3⟩ := hofF j b hj hb
     exact h2 (k3 (h.disj k id b k1 hls k2 h1))
    have hfz : ∀ b, Fz w E st.tb b → Fz w EF tbF b := fun b hb => by
     refine ⟨hb.1, ⟨hb.2.1, fun hh => hb.2.2 id hls hh.1⟩, fun j hj hbj => ?_⟩
     obtain ⟨k, k1, k2, _⟩ := hofF j b hj hbj
     exact hb.2.2 k k1 k2
    have hcellF : ∀ v x, men1 19 x = false → RepA w E st.tb v x → RepA w EF tbF v x := fun v x hx hv => repA_off hfz hv fun j hj => by
     have e1 : j ≠ 19 := fun e => by rw [e, hx] at hj; cases hj
     by_cases e2 : j = id
     ·exact .inl (e2 ▸ lkFid)
     ·exact .inr ⟨lkF j e1 e2, rfl, hFhv j e1⟩
    have menLx : ∀ {i : Nat} {vs : List A1} {x : A1}, menL i vs = false → x ∈ vs → men1 i x = false := fun {i vs x} hm hx => all1_men (v := .agg vs) hm x hx
    have hSF : Sat w (EF.zero tbF) 21 N stF EF a w := by
     refine ⟨h.defers, h.size, fun i v hi => ?_, fun j b hj => ?_, fun j j' b h1 h2 h3 h4 => ?_, fun j b h1 h2 => ?_, fun j hj h1 => ⟨rfl, rfl, fun b hb _ => .inl ⟨hj, hb, h1⟩⟩, fun _ _ _ => rfl, Nat.le_refl _, fun b hb => ?_, rfl, rfl, rfl, rfl⟩
     ·obtain ⟨u', g1, g2⟩ := h.slots i v hi
      exact ⟨u', g1, repV_off (all1_men (menF_ok hf19 hi)) g2 hcellF⟩
     ·by_cases e1 : j = 19
      ·subst e1
       rw [show lk stF.tb 19 = _ from lkF19] at hj
       injection hj with hj
       subst hj
       exact hown.row
      by_cases e2 : j = id
      ·rw [e2, show lk stF.tb id = _ from lkFid] at hj; cases hj
      cases b with
      | box fl vs =>
       obtain ⟨q1, _, _, q2, _⟩ := hboxF j fl vs hj
       obtain ⟨cur, T, g1, g2, g3, g4⟩ := (h.blks j _ q1 : BlkOk _ _ _ _ _ (.box fl vs))
       refine ⟨cur, T, g1, by rw [hFbs j e1]; exact g2, repL_off g3 fun v x hx hv => hcellF v x (menLx q2 hx) hv, fun hl => ⟨(Array.getElem?_eq_some_iff.1 g1).1, fun _ _ _ _ => rfl⟩⟩
      | row e2 t2 l2 d2 =>
       have hj' : lk st.tb j = some (.row e2 t2 l2 d2) := by rw [← lkF j e1 ‹_›]; exact hj
       show RowOk w _ (EF.bs j) e2 (EF.hv j) t2 l2 d2
       rw [hFbs j e1, hFhv j e1]
       exact RowOk.mono (h.blks j _ hj') (fun b hb _ => ⟨hfz b hb, rfl⟩) (fun b hb => ⟨hb, rfl⟩) (Nat.le_refl _)
     ·have key : ∀ j, (lk tbF j).isSome = true → EF.bs j b → j ≠ 19 → E.bs id b → False := fun j hj hb hn hi => by
       rcases hsomeF j hj with e | ⟨_, e2, e3⟩
       ·exact hn e
       ·rw [hFbs j hn] at hb; exact e2 (h.disj j id b e3 hls hb hi)
      by_cases e1 : j = 19
      ·by_cases e2 : j' = 19
       ·rw [e1, e2]
       ·subst e1; exact (key j' h2 h4 e2 (hBB b h3)).elim
      ·by_cases e2 : j' = 19
       ·subst e2; exact (key j h1 h3 e1 (hBB b h4)).elim
       ·rcases hsomeF j h1 with e | ⟨_, _, s1⟩
        ·exact absurd e e1
        rcases hsomeF j' h2 with e | ⟨_, _, s2⟩
        ·exact absurd e e2
        rw [hFbs j e1] at h3
        rw [hFbs j' e2] at h4
        exact h.disj j j' b s1 s2 h3 h4
     ·obtain ⟨k, k1, k2, _⟩ := hofF j b h1 h2
      exact ⟨(h.mine k b k1 k2).1, fun _ => ⟨20, by omega, .inr ⟨rfl, j, h1, h2⟩⟩⟩
     ·rcases hb with hb | ⟨i, _, hb⟩
      ·exact ⟨h.ro b (.inl (Nat.le_trans h.big hb)), fun hh => absurd (h.mine id b hls hh.1).1 (Nat.not_lt.2 hb)⟩
      ·have : ∃ j, (lk tbF j).isSome = true ∧ EF.bs j b := by
        rcases hb with ⟨_, h1, h2⟩ | ⟨_, j, h1, h2⟩
        ·exact ⟨i, h2, h1⟩
        ·exact ⟨j, h1, h2⟩
       obtain ⟨j, j1, j2⟩ := this
       obtain ⟨k, k1, k2, _⟩ := hofF j b j1 j2
       exact ⟨h.rok k1 k2, fun hh => hnotF b hh.1 hh.2 j j1 j2⟩
    obtain ⟨hp2, hp3⟩ := (onE_pre _ _).1 hp1
    have hbel : stF.bel base = true := by
     have := hp2
     unfold callSR at this
     rw [hC] at this
     exact (bif_bad.1 this).1
    have hbel' := hbel
    simp only [ASt.bel, Bool.and_eq_true] at hbel
    obtain ⟨⟨hb0, _⟩, hbB⟩ := hbel
    have hb20 : 20 ≤ base := Nat.le_of_ble_eq_true hb0
    have hrng : ∀ j, j ≠ id → (lk st.tb j).isSome = true → ¬ (base ≤ j ∧ j < base + 16) := fun j e2 hj => by
     obtain ⟨b, hb⟩ := Option.isSome_iff_exists.1 hj
     have e1 : j ≠ 19 := fun e => by rw [e, h19] at hj; cases hj
     exact (belB_ok hbB (show lk tbF j = some b by rw [lkF j e1 e2]; exact hb)).1
    refine call_core2 (R := After W0 E0 nl N st o _) hSF hd (f := f) (args := args.set n (.one (.sl 19 []))) (us := c.args.toList.map a.eval) (by simpa using hal) (fun i v hi => ?_) hΓ hp2 (fun e E' bs v w' he hS => ?_) (fun hfn => ?_) Q
    ·rw [List.getElem?_set] at hi
     by_cases e1 : n = i
     ·subst e1
      rw [if_pos rfl, if_pos (List.getElem?_eq_some_iff.1 hn).1] at hi
      injection hi with hi
      subst hi
      refine ⟨u, by rw [List.getElem?_map, hxo]; simp [hu], hru.1, fun e t2 l2 d2 hl2 => ⟨t', l', ?_⟩⟩
      rw [show lk stF.tb 19 = _ from lkF19] at hl2
      cases hl2
      rw [hFv19]
      exact .here
     ·rw [if_neg e1] at hi
      obtain ⟨y, g1, g2⟩ := hev i v hi
      have hm : v.men 19 = false := by
       have hy : ∃ x, st.ev x = some v := by
        have : ∀ {l : List Operand} {vs : List AV} {i : Nat} {v : AV}, evL st l = some vs → vs[i]? = some v → ∃ x, st.ev x = some v := by
         intro l
         induction l with
         | nil => intro vs i v h h'; simp only [evL, Option.some.injEq] at h; subst h; simp at h'
         | cons z l ih =>
          intro vs i v h h'
          simp only [evL] at h
          split at h
          ·rename_i v0 m e1 e2
           simp only [Option.some.injEq] at h
           subst h
           cases i with
           | zero => simp only [List.getElem?_cons_zero, Option.some.injEq] at h'; subst h'; exact ⟨z, e1⟩
           | succ i => exact ih e2 (by simpa using h')
          ·cases h
        exact this hargs hi
       obtain ⟨x, hx⟩ := hy
       cases x with
       | tmp s => exact menF_ok hf19 hx
       | const cv =>
        simp only [ASt.ev, Option.some.injEq] at hx
        subst hx
        have c1 : ∀ z, men1 19 (cst1 z) = false := fun z => by
         unfold cst1
         split
         ·split <;> rfl
         ·rfl
         ·rename_i s; cases Nat.ble s.size 9223372036854775807 <;> rfl
         ·rfl
         ·rfl
        unfold cst
        split
        ·rename_i cs
         cases hcs : cs.toList.all Value.oneCell' with
         | false => rfl
         | true =>
          show menL 19 (cs.toList.map cst1) = false
          generalize cs.toList = m
          induction m with
          | nil => rfl
          | cons z m ih => simp only [List.map_cons, menL, c1, ih, Bool.or_self]
        ·exact c1 _
       | func g => simp only [ASt.ev, Option.some.injEq] at hx; subst hx; rfl
       | global g => cases hx
      exact ⟨a.eval y, by rw [List.getElem?_map, g1]; rfl, repV_off (all1_men hm) g2 hcellF⟩
    ·-- behind the call
     have hp4 := hp3 e he
     unfold focE at hp4
     cases hl2 : lk e.ins 19 with
     | none => rw [hl2] at hp4; exact hp4.elim
     | some b2 => cases b2 with
      | box g vs => rw [hl2] at hp4; exact hp4.elim
      | row ex2 t2 l2 dp => cases dp with
       | false => rw [hl2] at hp4; exact hp4.elim
       | true =>
        simp only [hl2] at hp4
        by_cases ht : t2 = t'
        case neg => rw [dif_neg ht] at hp4; exact hp4.elim
        subst ht
        simp only [dite_true] at hp4
        obtain ⟨hck2, hp4⟩ := bif_bad.1 hp4
        have hck2' := hck2
        simp only [Bool.and_eq_true, Bool.not_eq_true'] at hck2
        obtain ⟨⟨⟨⟨hvid, hv19⟩, hiid⟩, hi19⟩, hall⟩ := hck2
        obtain ⟨hinsid, hinsidb⟩ := menB_ok hiid
        obtain ⟨_, hins19b⟩ := menB_ok hi19
        let E2 := EF.back E' bs base
        let tb2 := (e.app stF o.dst).tb
        have h2nr : ∀ j, ¬ (base ≤ j ∧ j < base + 16) → E2.hd j = EF.hd j ∧ E2.hv j = EF.hv j := fun j hj => ⟨by show (if base ≤ j ∧ j < base + 16 then _ else EF.hd j) = _; rw [if_neg hj], by show (if base ≤ j ∧ j < base + 16 then _ else EF.hv j) = _; rw [if_neg hj]⟩
        have h2v19 : E2.hv 19 = u := by rw [(h2nr 19 (by omega)).2]; exact hFv19
        have lk2 : ∀ j, lk tb2 j = (lk e.ins j).or (if j ∈ e.del then none else lk tbF j) := fun j => by
         show lk (e.ins ++ erl e.del tbF) j = _
         rw [lk_append, lk_erl]
        have lk2_19 : lk tb2 19 = some (.row ex2 t2 l2 true) := by rw [lk2, hl2]; rfl
        have s19 : (lk tb2 19).isSome = true := by rw [lk2_19]; rfl
        have hrow2 : RowOk w' _ (E2.bs 19) ex2 (E2.hv 19) t2 l2 true := hS.blks 19 _ lk2_19
        rw [h2v19] at hrow2
        have hlen : l2.length = l'.length := row_len (hown.row (F := fun _ => True)) hrow2
        obtain ⟨l3, hq1, hq2, hlen3, hq3⟩ := hput l2 _ hlen hp4
        have hzero : ∀ b, E.bs id b → ¬ B' b → ∀ i, i < 21 → ¬ (EF.zero tbF).bs i b := fun b h1 h2 i _ hz => by
         rcases hz with ⟨_, q1, q2⟩ | ⟨_, j, q1, q2⟩
         ·exact hnotF b h1 h2 i q2 q1
         ·exact hnotF b h1 h2 j q1 q2
        have hheap : ∀ b, E.bs id b → ¬ B' b → w'.heap[b]? = w.heap[b]? := fun b h1 h2 => hS.frame b (h.mine id b hls h1).1 (hzero b h1 h2)
        have hold : ∀ j b, (lk tb2 j).isSome = true → E2.bs j b → b < w.heap.size → ∃ k, (lk st.tb k).isSome = true ∧ E.bs k b ∧ (k = id → B' b) := fun j b h1 h2 h3 => by
         obtain ⟨i, _, q⟩ := (hS.mine j b h1 h2).2 h3
         rcases q with ⟨_, q1, q2⟩ | ⟨_, k, q1, q2⟩
         ·exact hofF i b q2 q1
         ·exact hofF k b q1 q2
        have hnew : ∀ j b, (lk tb2 j).isSome = true → E2.bs j b → E.bs id b → B' b := fun j b h1 h2 h3 => by
         obtain ⟨k, k1, k2, k3⟩ := hold j b h1 h2 (h.mine id b hls h3).1
         exact k3 (h.disj k id b k1 hls k2 h3)
        have hown3 := hq3 w' (E2.bs 19) hheap (fun b hb hb' => hnew 19 b s19 hb hb') hrow2.own
        let ES := E.unfoc E2 id B'
        let eS : Eff := { val := e.val, ins := (id, .row ex t l3 true) :: erl [19] e.ins, del := 19 :: e.del, kill := id :: e.kill }
        have hout : (focSR t l p fun t1 l1 put => (callSR Γ base ⟨st.fr, (19, .row none t1 l1 true) :: erl [id] st.tb, st.nx⟩ f (args.set n (.one (.sl 19 [])))).onE fun e => focE st id ex t t1 put e).outs eS := by
         refine hout1 _ ((onE_outs _ _ _).2 ⟨e, he, ?_⟩)
         unfold focE
         simp only [hl2, dite_true, hck2', cond_true]
         exact hq2 _ rfl
        let tbS := (eS.app st o.dst).tb
        have lkS : ∀ j, j ≠ id → j ≠ 19 → lk tbS j = lk tb2 j := fun j h1 h2 => by
         rw [lk2]
         show lk (((id, _) :: erl [19] e.ins) ++ erl (19 :: e.del) st.tb) j = _
         rw [lk_append, lk_cons, if_neg h1, lk_erl, if_neg (by simpa using h2), lk_erl, lkF j h2 h1]
         by_cases hm : j ∈ e.del
         ·rw [if_pos hm, if_pos (List.mem_cons_of_mem _ hm)]
         ·rw [if_neg hm, if_neg (by simp [h2, hm])]
        have lkSid : lk tbS id = some (.row ex t l3 true) := by
         show lk (((id, _) :: erl [19] e.ins) ++ erl (19 :: e.del) st.tb) id = _
         rw [lk_append, lk_cons, if_pos rfl]; rfl
        have lkS19 : lk tbS 19 = none := by
         show lk (((id, _) :: erl [19] e.ins) ++ erl (19 :: e.del) st.tb) 19 = _
         rw [lk_append, lk_cons, if_neg (fun e => hne e.symm), lk_erl, if_pos (by simp), lk_erl, if_pos (by simp)]; rfl
        have hsomeS : ∀ j, (lk tbS j).isSome = true → j = id ∨ (j ≠ id ∧ j ≠ 19 ∧ (lk tb2 j).isSome = true) := fun j hj => by
         by_cases e1 : j = id
         ·exact .inl e1
         by_cases e2 : j = 19
         ·rw [e2, lkS19] at hj; cases hj
         exact .inr ⟨e1, e2, by rw [← lkS j e1 e2]; exact hj⟩
        have hSbs : ∀ j, j ≠ id → ES.bs j = E2.bs j := fun j hj => by show (if j = id then _ else E2.bs j) = _; rw [if_neg hj]
        have hShv : ∀ j, j ≠ id → ES.hv j = E2.hv j := fun j hj => by show (if j = id then _ else E2.hv j) = _; rw [if_neg hj]
        have hShvid : ES.hv id = E.hv id := by show (if id = id then _ else _) = _; rw [if_pos rfl]
        have hSbsid : ES.bs id = fun b => (E.bs id b ∧ ¬ B' b) ∨ E2.bs 19 b := by show (if id = id then _ else _) = _; rw [if_pos rfl]
        have hfz2 : ∀ b, Fz w' E2 tb2 b → Fz w' ES tbS b := fun b hb => by
         have hro : EF.ro b := hb.2.1
         refine ⟨hb.1, hro.1, fun j hj hbj => ?_⟩
         rcases hsomeS j hj with e1 | ⟨e1, e2, e3⟩
         ·subst e1
          rw [hSbsid] at hbj
          rcases hbj with hbj | hbj
          ·exact hro.2 hbj
          ·exact hb.2.2 19 s19 hbj
         ·rw [hSbs j e1] at hbj
          exact hb.2.2 j e3 hbj
        have hcell0 : ∀ v x, men1 id x = false → men1 19 x = false → RepA w' E2 tb2 v x → RepA w' ES tbS v x := fun v x hx hx' hv => repA_off hfz2 hv fun j hj => by
         have e1 : j ≠ 19 := fun e => by rw [e, hx'] at hj; cases hj
         have e2 : j ≠ id := fun e => by rw [e, hx] at hj; cases hj
         exact .inr ⟨lkS j e2 e1, rfl, hShv j e2⟩
        have hcell1 : ∀ v x, (men1 19 x = false ∧ thru1 [id] x = false) → RepA w' E2 tb2 v x → RepA w E st.tb v x → RepA w' ES tbS v x := fun v x hx h2 h0 => by
         cases hm : men1 id x with
         | false => exact hcell0 v x hm hx.1 h2
         | true =>
          have hth : ∀ {q : Nat × Nat}, mem? [id] id = false → False := fun h => by simp [mem?, Nat.beq_refl] at h
          cases x with
          | ref i off =>
           have := (beq_iff _ _).1 hm
           subst this
           exact ⟨h0.1, fun f vs hh => by rw [lkSid] at hh; cases hh⟩
          | sl i p =>
           have := (beq_iff _ _).1 hm
           subst this
           cases p with
           | cons q p => exact (hth (q := q) hx.2).elim
           | nil =>
            obtain ⟨_, _, hat0⟩ := h0.2 ex t l true hl
            obtain ⟨e1, _⟩ := hat0.nil_inv
            refine ⟨h0.1, fun e4 t4 l4 d4 hh => ⟨t4, l4, ?_⟩⟩
            rw [hShvid, e1]
            exact .here
          | ptr i p k off =>
           have := (beq_iff _ _).1 hm
           subst this
           cases p with
           | cons q p => exact (hth (q := q) hx.2).elim
           | nil =>
            obtain ⟨b4, o4, n4, c4, t4, l4, hat0, hk4, hv4⟩ := h0.2 ex t l true hl
            obtain ⟨e1, e2⟩ := hat0.nil_inv
            cases e2
            refine ⟨h0.1, fun e5 t5 l5 d5 hh => ?_⟩
            rw [lkSid] at hh
            cases hh
            exact ⟨b4, o4, n4, c4, t, l3, by rw [hShvid, ← e1]; exact .here, by rw [hlen3]; exact hk4, hv4⟩
          | sub i lo m =>
           have := (beq_iff _ _).1 hm
           subst this
           obtain ⟨A, c4, q1, q2, q3, q4, q5⟩ := h0.2 ex t l true hl
           refine ⟨h0.1, fun e5 t5 l5 d5 hh => ?_⟩
           rw [lkSid] at hh
           cases hh
           exact ⟨A, c4, q1, q2, q3, by rw [hlen3]; exact q4, fun h => by rw [hShvid, hlen3]; exact q5 h⟩
          | fn g caps =>
           obtain ⟨arr, q1, q2, q3⟩ := h2
           refine ⟨arr, q1, q2, fun i j hj => ?_⟩
           obtain ⟨z, z1, z2, z3⟩ := q3 i j hj
           refine ⟨z, z1, z2, fun f vs hh => ?_⟩
           by_cases e1 : j = id
           ·rw [e1, lkSid] at hh; cases hh
           by_cases e2 : j = 19
           ·rw [e2, lkS19] at hh; cases hh
           rw [lkS j e1 e2] at hh
           exact z3 f vs hh
          | _ => cases hm
        have hbox2 : ∀ j f vs, j ≠ id → j ≠ 19 → lk tb2 j = some (.box f vs) → menL id vs = false ∧ menL 19 vs = false ∧ (f = true → lk st.tb j = some (.box f vs)) := fun j f vs e1 e2 hj => by
         rw [lk2] at hj
         cases hi : lk e.ins j with
         | some b =>
          rw [hi] at hj
          simp only [Option.some_or, Option.some.injEq] at hj
          subst hj
          refine ⟨hinsidb j f vs hi, hins19b j f vs (by rw [lk_erl, if_neg (by simpa using e2)]; exact hi), fun hf => ?_⟩
          have := (List.all_eq_true.1 hall) _ (lk_mem hi)
          subst hf
          simp [isLent] at this
         | none =>
          rw [hi] at hj
          simp only [Option.none_or] at hj
          split at hj
          ·cases hj
          ·obtain ⟨q1, _, _, q2, q3⟩ := hboxF j f vs hj
           exact ⟨q3, q2, fun _ => q1⟩
        have holdj : ∀ j, j < 20 → j ≠ id → j ≠ 19 → (lk tb2 j).isSome = true → (lk st.tb j).isSome = true := fun j h1 e1 e2 hj => by
         rw [lk2] at hj
         cases hi : lk e.ins j with
         | some b =>
          have := (List.all_eq_true.1 hall) _ (lk_mem hi)
          simp only [Bool.and_eq_true, Bool.or_eq_true] at this
          rcases this.2 with (h3 | h3) | h3
          ·have := Nat.le_of_ble_eq_true h3; omega
          ·exact absurd ((beq_iff _ _).1 h3) e2
          ·exact h3
         | none =>
          rw [hi] at hj
          simp only [Option.none_or] at hj
          split at hj
          ·cases hj
          ·rwa [lkF j e2 e1] at hj
        refine ⟨eS, ES, hout, ?_⟩
        have hput1 : ∀ i, (∀ d, o.dst = some d → i ≠ d) → (a.put o.dst v).tmps[i]? = a.tmps[i]? := fun i hi => by
         cases hdst : o.dst with
         | none => rfl
         | some d => simp only [Act.put]; rw [Array.getElem?_setIfInBounds_ne (fun e' => hi d hdst e'.symm)]
        have hold1 : ∀ i y, (∀ d, o.dst = some d → i ≠ d) → lk (killF (id :: e.kill) st.fr) i = some y → ∃ z, (a.put o.dst v).tmps[i]? = some z ∧ RepV w' ES tbS z y := fun i y hi hy => by
         obtain ⟨y1, y2⟩ := killF_ok hy
         have y2 : y.thru (id :: e.kill) = false := by
          rcases y2 with y2 | y2
          ·cases y2
          ·exact y2
         obtain ⟨y3, y4⟩ := thru_cons y2
         have y5 := killF_stay y1 y4
         have hfr2 : lk (e.app stF o.dst).fr i = some y := by
          show lk (putF o.dst e.val (killF e.kill st.fr)) i = _
          cases hdst : o.dst with
          | none => exact y5
          | some d => show lk ((d, e.val) :: killF e.kill st.fr) i = _; rw [lk_cons, if_neg (hi d hdst)]; exact y5
         obtain ⟨z2, k1, k2⟩ := hS.slots i y hfr2
         obtain ⟨z1, k3, k4⟩ := h.slots i y y1
         rw [hput1 i hi, k3] at k1
         injection k1 with k1
         subst k1
         exact ⟨z1, by rw [hput1 i hi]; exact k3, repV_off2 (all1_and (all1_men (menF_ok hf19 y1)) (all1_thru y3)) k2 k4 hcell1⟩
        refine ⟨hS.defers, hS.size, fun i y hi => ?_, fun j b hj => ?_, fun j j' b h1 h2 h3 h4 => ?_, fun j b h1 h2 => ?_, fun j hj h1 => ?_, fun b h1 h2 => ?_, Nat.le_trans h.big hS.big, h.ro, h.roE, hS.os.trans h.os, hS.tape.trans h.tape, hS.output.trans h.output⟩
        ·have hi2 : lk (putF o.dst e.val (killF (id :: e.kill) st.fr)) i = some y := hi
         cases hdst : o.dst with
         | none =>
          rw [hdst] at hi2
          have := hold1 i y (fun d hd' => by rw [hdst] at hd'; cases hd') hi2
          rwa [hdst] at this
         | some d =>
          rw [hdst] at hi2
          have hi3 : lk ((d, e.val) :: killF (id :: e.kill) st.fr) i = some y := hi2
          rw [lk_cons] at hi3
          by_cases e1 : i = d
          ·rw [if_pos e1] at hi3
           injection hi3 with hi3
           subst hi3 e1
           obtain ⟨z, k1, k2⟩ := hS.slots i e.val (by
            show lk (putF o.dst e.val (killF e.kill st.fr)) i = _
            rw [hdst]
            show lk ((i, e.val) :: _) i = _
            rw [lk_cons, if_pos rfl])
           rw [hdst] at k1
           exact ⟨z, k1, repV_off (all1_and (all1_men hvid) (all1_men hv19)) k2 fun v x hx hv => hcell0 v x hx.1 hx.2 hv⟩
          ·rw [if_neg e1] at hi3
           have := hold1 i y (fun d' hd' => by rw [hdst] at hd'; injection hd' with hd'; exact hd' ▸ e1) hi3
           rwa [hdst] at this
        ·by_cases e1 : j = id
         ·subst e1
          rw [show lk (eS.app st o.dst).tb j = _ from lkSid] at hj
          injection hj with hj
          subst hj
          show RowOk w' _ (ES.bs j) ex (ES.hv j) t l3 true
          rw [hSbsid, hShvid]
          refine hown3.row_e fun e' he' b n2 c2 hvb cur2 e2 hh2 => ?_
          rcases hrow with ⟨r1, _⟩ | ⟨b1, c1, er, cr, g, S, r1, r0, r2, r3, _⟩
          ·rw [r1] at hvb; cases hvb
          ·rw [r1] at hvb
           injection hvb with q1 _ _
           injection q1 with q1
           injection q1 with q1
           subst q1
           rw [hheap b1 r0 (htop b1 _ _ _ r1), r2] at hh2
           injection hh2 with hh2
           injection hh2 with _ q2 _
           rw [← q2]; exact r3 e' he'
         ·have hj2 : lk tbS j = some b := hj
          have e2 : j ≠ 19 := fun e => by rw [e, lkS19] at hj2; cases hj2
          rw [lkS j e1 e2] at hj2
          cases b with
          | box fl vs =>
           obtain ⟨m1, m2, m3⟩ := hbox2 j fl vs e1 e2 hj2
           obtain ⟨cur, T, g1, g2, g3, g4⟩ := (hS.blks j _ hj2 : BlkOk _ _ _ _ _ (.box fl vs))
           refine ⟨cur, T, g1, by rw [hSbs j e1]; exact g2, repL_off g3 fun v x hx hv => hcell0 v x (menLx m1 hx) (menLx m2 hx) hv, fun hfl => ?_⟩
           have hst := m3 hfl
           obtain ⟨_, g6⟩ := g4 hfl
           obtain ⟨_, _, _, _, _, g7⟩ := (h.blks j _ hst : BlkOk _ _ _ _ _ (.box fl vs))
           obtain ⟨g8, g9⟩ := g7 hfl
           have hhd : E2.hd j = E.hd j := (h2nr j (hrng j e1 (by rw [hst]; rfl))).1
           refine ⟨by show E2.hd j < _; rw [hhd]; exact g8, fun off x ho hn => ?_⟩
           show w'.cell? ⟨E2.hd j, off, none⟩ = W0.cell? ⟨E2.hd j, off, none⟩
           rw [g6 off x ho hn, hhd]
           exact g9 off x ho hn
          | row e3 t3 l4 d3 =>
           show RowOk w' _ (ES.bs j) e3 (ES.hv j) t3 l4 d3
           rw [hSbs j e1, hShv j e1]
           exact RowOk.mono (hS.blks j _ hj2) (fun b hb _ => ⟨hfz2 b hb, rfl⟩) (fun b hb => ⟨hb, rfl⟩) (Nat.le_refl _)
        ·have key : ∀ j, j ≠ id → j ≠ 19 → (lk tb2 j).isSome = true → E2.bs j b → ((E.bs id b ∧ ¬ B' b) ∨ E2.bs 19 b) → False := fun j e1 e2 hj hb hi => by
          rcases hi with ⟨q1, q2⟩ | q
          ·exact q2 (hnew j b hj hb q1)
          ·exact e2 (hS.disj j 19 b hj s19 hb q)
         rcases hsomeS j h1 with e1 | ⟨e1, e2, e3⟩ <;> rcases hsomeS j' h2 with e1' | ⟨e1', e2', e3'⟩
         ·rw [e1, e1']
         ·subst e1
          rw [hSbsid] at h3
          rw [hSbs j' e1'] at h4
          exact (key j' e1' e2' e3' h4 h3).elim
         ·subst e1'
          rw [hSbsid] at h4
          rw [hSbs j e1] at h3
          exact (key j e1 e2 e3 h3 h4).elim
         ·rw [hSbs j e1] at h3
          rw [hSbs j' e1'] at h4
          exact hS.disj j j' b e3 e3' h3 h4
        ·have key : ∀ j, (lk tb2 j).isSome = true → E2.bs j b → b < w'.heap.size ∧ (b < W0.heap.size → ∃ i, i < nl ∧ E0.bs i b) := fun j hj hb => by
          refine ⟨(hS.mine j b hj hb).1, fun hlt => ?_⟩
          obtain ⟨k, k1, k2, _⟩ := hold j b hj hb (Nat.lt_of_lt_of_le hlt h.big)
          exact (h.mine k b k1 k2).2 hlt
         rcases hsomeS j h1 with e1 | ⟨e1, e2, e3⟩
         ·subst e1
          rw [hSbsid] at h2
          rcases h2 with ⟨q1, _⟩ | q
          ·have := h.mine j b hls q1
           exact ⟨Nat.lt_of_lt_of_le this.1 hS.big, this.2⟩
          ·exact key 19 s19 q
         ·rw [hSbs j e1] at h2
          exact key j e3 h2
        ·rcases hsomeS j h1 with e1 | ⟨e1, e2, e3⟩
         ·subst e1
          obtain ⟨q1, q2, q3⟩ := h.lent j hj hls
          refine ⟨by show E2.hd j = _; rw [(h2nr j (by omega)).1]; exact q1, by rw [hShvid]; exact q2, fun b hb hlt => ?_⟩
          rw [hSbsid] at hb
          rcases hb with ⟨z1, _⟩ | z
          ·exact q3 b z1 hlt
          ·rcases (hS.lent 19 (by omega) s19).2.2 b z (Nat.lt_of_lt_of_le hlt h.big) with ⟨_, z1, _⟩ | ⟨z1, _⟩
           ·exact q3 b (hBB b z1) hlt
           ·cases z1
         ·obtain ⟨q1, q2, q3⟩ := h.lent j hj (holdj j hj e1 e2 e3)
          obtain ⟨r1, r2, r3⟩ := hS.lent j hj e3
          refine ⟨by show E2.hd j = _; rw [show E2.hd j = (EF.zero tbF).hd j from r1]; exact q1, by rw [hShv j e1, show E2.hv j = (EF.zero tbF).hv j from r2, show (EF.zero tbF).hv j = EF.hv j from rfl, hFhv j e2]; exact q2, fun b hb hlt => ?_⟩
          rw [hSbs j e1] at hb
          rcases r3 b hb (Nat.lt_of_lt_of_le hlt h.big) with ⟨_, z1, _⟩ | ⟨z1, _⟩
          ·rw [hFbs j e2] at z1; exact q3 b z1 hlt
          ·omega
        ·rw [← h.frame b h1 h2]
         refine hS.frame b (Nat.lt_of_lt_of_le h1 h.big) fun i _ hz => ?_
         have : ∃ k, (lk st.tb k).isSome = true ∧ E.bs k b ∧ (k = id → B' b) := by
          rcases hz with ⟨_, q1, q2⟩ | ⟨_, j, q1, q2⟩
          ·exact hofF i b q2 q1
          ·exact hofF j b q1 q2
         obtain ⟨k, k1, k2, _⟩ := this
         obtain ⟨i', i1, i2⟩ := (h.mine k b k1 k2).2 h1
         exact h2 i' i1 i2
    ·obtain ⟨fn, z1, z2, z3⟩ := hfn
     have := run_call (P := P) (a := a) (w := w) ho hc (arr := #[]) rfl ⟨fn, z1, z2, z3⟩
     rw [this]
     congr 2
     apply Array.ext'
     simp
end
end Go.Proofs.YtpgglbnagphgoaaGreat
/- Regions in the text's order. -/
namespace Go.Proofs.YtpgglbnagphgoaaGreat
open Go.RowKit
open SR (opt)

section
variable {P : Program} {Γ : Cfg} {W0 w w' : World} {E0 E E' E1 E2 : Env} {nl N base : Nat} {st : ASt} {a : Act} {o : Oper} {tb T tb2 : Tb} {bs : List Nat}

theorem Sat.reval {dst : Option Nat} {v v' : AV} {fr : Fr} {nx : Nat} (h : Sat W0 E0 nl N ⟨putF dst v fr, tb, nx⟩ E a w) (hv : ∀ u, RepV w E tb u v → RepV w E tb u v') : Sat W0 E0 nl N ⟨putF dst v' fr, tb, nx⟩ E a w := by
 refine { h with slots := fun i y hi => ?_ }
 cases dst with
 | none => exact h.slots i y hi
 | some d =>
  have hi : lk ((d, v') :: fr) i = some y := hi
  have hs : ∀ y, lk ((d, v) :: fr) i = some y → ∃ u, a.tmps[i]? = some u ∧ RepV w E tb u y := h.slots i
  rw [lk_cons] at hi
  by_cases e : i = d
  ·rw [if_pos e] at hi
   injection hi with hi
   subst hi
   obtain ⟨u, h1, h2⟩ := hs v (by rw [lk_cons, if_pos e])
   exact ⟨u, h1, hv u h2⟩
  ·rw [if_neg e] at hi
   exact hs y (by rw [lk_cons, if_neg e]; exact hi)
theorem fk_pre {b : Bool} {r : SR} : (fk b r).pre → r.pre := fun h => by
 cases b with
 | false => exact h
 | true => exact ((onE_pre _ _).1 h).1
theorem fk_after {b : Bool} {r : SR} (h : After W0 E0 nl N st o r a w) : After W0 E0 nl N st o (fk b r) a w := by
 cases b with
 | false => exact h
 | true =>
  obtain ⟨e, E1, h1, h2⟩ := h
  unfold fk
  simp only [cond_true]
  obtain ⟨v, ins, del, kill, wr⟩ := e
  have dflt : (∀ x, v ≠ .one (.c ⟨.bool, x⟩)) → After W0 E0 nl N st o (r.onE fun e => (match e.val with | .one (.c ⟨.bool, x⟩) => .fork x (.ret { e with val := .one (.lit true) }) (.ret { e with val := .one (.lit false) }) | _ => .ret e)) a w := fun hne => by
   refine ⟨_, E1, (onE_outs _ _ _).2 ⟨_, h1, ?_⟩, h2⟩
   split
   ·rename_i x hx
    exact absurd hx (hne x)
   ·exact rfl
  cases v with
  | one y => cases y with
   | c z =>
    obtain ⟨ty, z⟩ := z
    cases ty with
    | bool =>
     refine ⟨{ val := .one (.lit z), ins := ins, del := del, kill := kill, wr := wr }, E1, (onE_outs _ _ _).2 ⟨_, h1, ?_⟩, ?_⟩
     ·cases z with
      | true => exact .inl ⟨rfl, rfl⟩
      | false => exact .inr ⟨rfl, rfl⟩
     ·refine Sat.reval (v := .one (.c ⟨.bool, z⟩)) h2 fun u hu => ?_
      have hu : RepC _ _ u ⟨.bool, z⟩ := hu
      cases hu
      exact rfl
    | _ => exact dflt fun x hx => by cases hx
   | _ => exact dflt fun x hx => by cases hx
  | _ => exact dflt fun x hx => by cases hx
theorem after_skip (h : Sat W0 E0 nl N st E a w) (hd : ∀ d, o.dst = some d → d < N) : After W0 E0 nl N st o (.ret { val := .one (.val undef) }) (a.put o.dst undef) w := by
 refine ⟨_, E, rfl, ?_⟩
 have := h.put (dst := o.dst) (v := .one (.val undef)) (u := undef) hd rfl
 simpa [Eff.app, killF, erl_nil] using this
theorem gstep_ok (h : Sat W0 E0 nl N st E a w) (hΓ : ∀ f C, Γ.con f = some C → ConOK P f C) (hd : ∀ d, o.dst = some d → d < N) (ops : Array Oper) {i : Nat} (hp : (gstep P Γ ops.toList i base o st).pre) (Q : Exit → Act → World → Prop) :
  if Region.wanted o (yielded ops a.tmps) then o.wp P a w (After W0 E0 nl N st o (gstep P Γ ops.toList i base o st)) Q else After W0 E0 nl N st o (gstep P Γ ops.toList i base o st) (a.put o.dst undef) w := by
 unfold gstep at hp ⊢
 cases hg : o.guard with
 | none =>
  rw [hg] at hp
  have hw : Region.wanted o (yielded ops a.tmps) = true := by simp [Region.wanted, hg]
  rw [if_pos hw]
  exact Oper.wp_mono (fun a w h => fk_after h) (step_ok h hΓ hd (fk_pre hp) Q)
 | some g =>
  obtain ⟨j, want⟩ := g
  rw [hg] at hp
  simp only at hp ⊢
  have hy : ∀ v, ((nth ops.toList j).bind (·.dst)).bind (lk st.fr) = some v → ∃ u, ((ops[j]?).bind (·.dst)).bind (a.tmps[·]?) = some u ∧ RepV w E st.tb u v := fun v hv => by
   simp only [Option.bind_eq_some_iff] at hv ⊢
   obtain ⟨d, ⟨o', h1, h2⟩, h3⟩ := hv
   rw [nth_eq] at h1
   obtain ⟨u, h4, h5⟩ := h.slots d v h3
   exact ⟨u, ⟨d, ⟨o', by simpa using h1, h2⟩, h4⟩, h5⟩
  split at hp
  ·rename_i b hb
   obtain ⟨u, h1, h2⟩ := hy _ hb
   have h2 : u = .bool b := h2
   subst h2
   have hyd : yielded ops a.tmps j = some b := by simp only [yielded, h1]
   cases hbb : beqB b want with
   | true =>
    have : b = want := by cases b <;> cases want <;> first | rfl | cases hbb
    subst this
    have hw : Region.wanted o (yielded ops a.tmps) = true := by simp [Region.wanted, hg, hyd]
    rw [hbb] at hp
    rw [if_pos hw]
    exact Oper.wp_mono (fun a w h => fk_after h) (step_ok h hΓ hd (fk_pre hp) Q)
   | false =>
    have : b ≠ want := by intro e; subst e; cases b <;> cases hbb
    have hw : Region.wanted o (yielded ops a.tmps) = false := by simp [Region.wanted, hg, hyd, this]
    rw [hw]
    exact after_skip h hd
  ·rename_i v hb
   split at hp
   ·rename_i l
    obtain ⟨u, h1, h2⟩ := hy _ hb
    have h2 : u = .tuple l := h2
    subst h2
    have hyd : yielded ops a.tmps j = none := by simp only [yielded, h1]
    have hw : Region.wanted o (yielded ops a.tmps) = false := by simp [Region.wanted, hg, hyd]
    rw [hw]
    exact after_skip h hd
   ·exact hp.elim
  ·exact hp.elim

theorem Sat.nxx {fr : Fr} {nx : Nat} (h : Sat W0 E0 nl N ⟨fr, tb, nx⟩ E a w) (m : Nat) : Sat W0 E0 nl N ⟨fr, tb, m⟩ E a w := { h with }
theorem runL_ok (hΓ : ∀ f C, Γ.con f = some C → ConOK P f C) (ops : Array Oper) (Q : Exit → Act → World → Prop) {K : ASt → Prop} (hQ : ∀ st E a w, K st → Sat W0 E0 nl N st E a w → Q .normal a w) :
  ∀ (l : List Oper) (i : Nat) (st : ASt) (E : Env) (a : Act) (w : World), (∀ o ∈ l, ∀ d, o.dst = some d → d < N) → Sat W0 E0 nl N st E a w → runL P Γ ops.toList l i st K → wpList P ops Q l a w := by
 intro l
 induction l with
 | nil =>
  intro i st E a w _ h hr
  exact hQ _ E a w hr (h.nxx _)
 | cons o l ih =>
  intro i st E a w hd h hr
  simp only [runL] at hr
  obtain ⟨hp, hr⟩ := (SR.cps_iff _ _).1 hr
  have : if Region.wanted o (yielded ops a.tmps) then o.wp P a w (After W0 E0 nl N st o (fstep P Γ ops.toList i (st.nx + 16 * i) o st)) Q else After W0 E0 nl N st o (fstep P Γ ops.toList i (st.nx + 16 * i) o st) (a.put o.dst undef) w := by
   unfold fstep at hp ⊢
   cases hfo : focOp Γ (st.nx + 16 * i) o st with
   | some r =>
    rw [hfo] at hp
    obtain ⟨h1, h2⟩ := foc_ok h (hd o (by simp)) hΓ hfo hp Q
    rw [if_pos (by simp [Region.wanted, h1])]
    exact h2
   | none =>
    rw [hfo] at hp
    exact gstep_ok h hΓ (hd o (by simp)) ops hp Q
  have next : ∀ a' w', After W0 E0 nl N st o (fstep P Γ ops.toList i (st.nx + 16 * i) o st) a' w' → wpList P ops Q l a' w' := fun a' w' ⟨e, E1, h1, h2⟩ => ih (i + 1) _ E1 a' w' (fun o ho => hd o (by simp [ho])) h2 (hr e h1)
  simp only [wpList]
  split
  ·rename_i hw
   rw [if_pos hw] at this
   exact .inl (Oper.wp_mono next this)
  ·rename_i hw
   rw [if_neg hw] at this
   exact next _ _ this
end
end Go.Proofs.YtpgglbnagphgoaaGreat
/- A state by another's names: what is weaker holds. -/
namespace Go.Proofs.YtpgglbnagphgoaaGreat
open Go.RowKit
open SR (opt)

section
variable {P : Program} {Γ : Cfg} {W0 w w' : World} {E0 E E' E1 E2 : Env} {nl N base : Nat} {st : ASt} {a : Act} {o : Oper} {tb T tb2 : Tb} {bs : List Nat} {r : Ren} {K : Prop}

theorem hasR_ok {i j : Nat} (h : hasR r i j = true) : lk r i = some (some j) := by
 unfold hasR at h
 split at h
 ·rename_i k hk
  rw [hk, (beq_iff _ _).1 h]
 ·cases h
theorem isN_ok {i : Nat} (h : isN r i = true) : lk r i = some none := by
 unfold isN at h
 split at h
 ·assumption
 ·cases h
theorem hasL_ok : ∀ {l m : List Nat}, hasL r l m = true → l.length = m.length ∧ ∀ (i x y : Nat), l[i]? = some x → m[i]? = some y → lk r x = some (some y) := by
 intro l
 induction l with
 | nil => intro m h; cases m with
  | nil => exact ⟨rfl, fun i x y hx => by simp at hx⟩
  | cons => cases h
 | cons z l ih =>
  intro m h
  cases m with
  | nil => cases h
  | cons y m =>
   simp only [hasL, Bool.and_eq_true] at h
   obtain ⟨g1, g2⟩ := ih h.2
   refine ⟨by simp [g1], fun i x y' hx hy => ?_⟩
   cases i with
   | zero =>
    simp only [List.getElem?_cons_zero, Option.some.injEq] at hx hy
    subst hx hy
    exact hasR_ok h.1
   | succ i => exact g2 i x y' (by simpa using hx) (by simpa using hy)
theorem ran_mem {j : Nat} : ran r j = true ↔ ∃ i, (i, some j) ∈ r := by
 simp only [ran, List.any_eq_true]
 constructor
 ·rintro ⟨⟨i, x⟩, h1, h2⟩
  cases x with
  | none => cases h2
  | some k =>
   have := (beq_iff _ _).1 h2
   subst this
   exact ⟨i, h1⟩
 ·rintro ⟨i, h⟩
  exact ⟨_, h, Nat.beq_refl j⟩
theorem okRen_ok (h : okRen r = true) : (∀ i i' j, lk r i = some (some j) → lk r i' = some (some j) → i = i') ∧ (∀ i x, lk r i = some x → i < 20 → x = some i) ∧ ∀ i j, lk r i = some (some j) → j < 20 → i = j := by
 induction r with
 | nil => exact ⟨(fun i i' j h => by cases h), (fun i x h => by cases h), (fun i j h => by cases h)⟩
 | cons p r ih =>
  obtain ⟨i0, x0⟩ := p
  cases x0 with
  | none =>
   simp only [okRen, Bool.and_eq_true, Bool.not_eq_true'] at h
   obtain ⟨g1, g2, g3⟩ := ih h.2
   have h20 : ¬ i0 < 20 := fun hh => by have : Nat.blt i0 20 = true := Nat.ble_eq_true_of_le hh; rw [this] at h; cases h.1
   refine ⟨fun i i' j hi hi' => ?_, fun i x hi hlt => ?_, fun i j hi hlt => ?_⟩
   ·rw [lk_cons] at hi hi'
    split at hi
    ·cases hi
    ·split at hi'
     ·cases hi'
     ·exact g1 i i' j hi hi'
   ·rw [lk_cons] at hi
    split at hi
    ·rename_i e; subst e; exact absurd hlt h20
    ·exact g2 i x hi hlt
   ·rw [lk_cons] at hi
    split at hi
    ·cases hi
    ·exact g3 i j hi hlt
  | some j0 =>
   simp only [okRen, Bool.and_eq_true, Bool.not_eq_true', Bool.or_eq_true] at h
   obtain ⟨⟨hr, hs⟩, h⟩ := h
   obtain ⟨g1, g2, g3⟩ := ih h
   have hno : ∀ i, lk r i ≠ some (some j0) := fun i hi => by
    rw [ran_mem.2 ⟨i, lk_mem hi⟩] at hr
    cases hr
   have hs : i0 = j0 ∨ (¬ i0 < 20 ∧ ¬ j0 < 20) := hs.imp (beq_iff _ _).1 fun hs =>
    ⟨(fun hh => by have : Nat.blt i0 20 = true := Nat.ble_eq_true_of_le hh; rw [this] at hs; cases hs.1), (fun hh => by have : Nat.blt j0 20 = true := Nat.ble_eq_true_of_le hh; rw [this] at hs; cases hs.2)⟩
   refine ⟨fun i i' j hi hi' => ?_, fun i x hi hlt => ?_, fun i j hi hlt => ?_⟩
   ·rw [lk_cons] at hi hi'
    split at hi
    ·split at hi'
     ·omega
     ·rename_i e _
      injection hi with hi
      injection hi with hi
      subst hi
      exact absurd hi' (hno i')
    ·split at hi'
     ·rename_i e _
      injection hi' with hi'
      injection hi' with hi'
      subst hi'
      exact absurd hi (hno i)
     ·exact g1 i i' j hi hi'
   ·rw [lk_cons] at hi
    split at hi
    ·rename_i e
     subst e
     injection hi with hi
     subst hi
     rcases hs with rfl | hs
     ·rfl
     ·exact absurd hlt hs.1
    ·exact g2 i x hi hlt
   ·rw [lk_cons] at hi
    split at hi
    ·rename_i e
     subst e
     injection hi with hi
     injection hi with hi
     subst hi
     rcases hs with rfl | hs
     ·rfl
     ·exact absurd hlt hs.2
    ·exact g3 i j hi hlt

def Env.ren (E : Env) (r : Ren) (tb : Tb) : Env := {
 hd := fun i => match lk r i with | some (some j) => E.hd j | _ => 0
 hv := fun i => match lk r i with | some (some j) => E.hv j | _ => .slice none 0 0
 bs := fun i b => match lk r i with
  | some (some j) => E.bs j b ∧ (match lk tb i with | some (.row _ _ _ false) => (E.hv j).ownBlock = some b | _ => True)
  | _ => False
 ro := E.ro }

theorem eqP_ok {p q : List (Nat × Nat)} (h : eqP p q K) : p = q ∧ K := by
 induction p generalizing q with
 | nil => cases q with
  | nil => exact ⟨rfl, h⟩
  | cons => exact h.elim
 | cons x p ih =>
  cases q with
  | nil => exact h.elim
  | cons y q =>
   simp only [eqP] at h
   cases hb : Nat.beq x.2 y.2 with
   | false => rw [hb] at h; exact h.elim
   | true =>
    rw [hb] at h
    obtain ⟨h1, h2⟩ := h
    obtain ⟨h3, h4⟩ := ih h2
    obtain ⟨x1, x2⟩ := x
    obtain ⟨y1, y2⟩ := y
    have := (beq_iff _ _).1 hb
    simp only at h1 this
    subst h1 this h3
    exact ⟨rfl, h4⟩
theorem elP_ok {t : Ty} {l : List t.den} {k : Nat} {x : t.den} {f : List Cell → Prop} (hx : l[k]? = some x) (hp : elP t l k f) : f (t.cells x) := by
 cases t
 case hol s => exact hp.elim
 all_goals exact hp x hx
theorem pathP_ok {v v' : Value} {t t' : Ty} {l : List t.den} {l' : List t'.den} {p : List (Nat × Nat)} {f : (t : Ty) → List t.den → Prop} (h : At w v t l p v' t' l') (hp : pathP t l p f) : f t' l' := by
 induction h with
 | here => exact hp
 | step hx hn hc h ih =>
  have := elP_ok hx hp
  rw [hn] at this
  exact ih this
theorem eqC_eq {x y : Cell} (h : eqC' y x K) : y = x ∧ K := by
 unfold eqC' at h
 split at h
 ·rename_i ht
  obtain ⟨ty, y⟩ := y
  obtain ⟨tx, x⟩ := x
  simp only at ht
  subst ht
  exact ⟨by rw [show y = x from h.1], h.2⟩
 ·exact h.elim

theorem le1_K {a b : A1} {u : Value} (hu : RepA w E tb u b) (h : le1 r tb a b K) : K := by
 unfold le1 at h
 split at h
 ·exact (eqC_eq h).2
 ·exact h.2
 ·exact h.2
 ·rename_i t l j p
  cases hr : ran r j with
  | true => rw [hr] at h; exact h.elim
  | false =>
   rw [hr] at h
   simp only [cond_false] at h
   split at h
   ·rename_i e t1 l1 d hl
    obtain ⟨t', l', hat⟩ := hu.2 e t1 l1 d hl
    have := pathP_ok hat h
    split at this
    ·exact this.2
    ·exact this.elim
   ·exact h.elim
 ·rename_i t l j lo n
  cases hr : ran r j with
  | true => rw [hr] at h; exact h.elim
  | false =>
   rw [hr] at h
   simp only [cond_false] at h
   split at h
   ·split at h
    ·exact h.2
    ·exact h.elim
   ·exact h.elim
 ·exact h.2
 ·exact h.2
 ·exact h
 ·exact h.2
 ·rename_i i o j o'
  cases hb : Nat.beq o o' && hasR r i j with
  | true => rw [hb] at h; exact h
  | false => rw [hb] at h; exact h.elim
 ·rename_i i p k o j p' k' o'
  cases hb : Nat.beq o o' && hasR r i j with
  | true => rw [hb] at h; exact (eqP_ok h).2.2
  | false => rw [hb] at h; exact h.elim
 ·rename_i i p j p'
  cases hb : hasR r i j with
  | true => rw [hb] at h; exact (eqP_ok h).2
  | false => rw [hb] at h; exact h.elim
 ·rename_i i
  cases hb : isN r i with
  | true => rw [hb] at h; exact h
  | false => rw [hb] at h; exact h.elim
 ·rename_i i lo n j lo' n'
  cases hb : hasR r i j with
  | true => rw [hb] at h; exact h.2.2
  | false => rw [hb] at h; exact h.elim
 ·rename_i f l g m
  cases hb : Nat.beq f g && hasL r l m with
  | true => rw [hb] at h; exact h
  | false => rw [hb] at h; exact h.elim
 ·exact h.elim
theorem leL_K : ∀ {l m : List A1} {K : Prop}, (∀ x ∈ m, ∃ u, RepA w E tb u x) → leL r tb l m K → K ∧ l.length = m.length ∧ ∀ (i : Nat) (x y : A1), l[i]? = some x → m[i]? = some y → ∃ K', le1 r tb x y K' := by
 intro l
 induction l with
 | nil => intro m K hm h; cases m with
  | nil => exact ⟨h, rfl, fun i x y hx => by simp at hx⟩
  | cons => exact h.elim
 | cons a l ih =>
  intro m K hm h
  cases m with
  | nil => exact h.elim
  | cons b m =>
   simp only [leL] at h
   obtain ⟨u, hu⟩ := hm b (by simp)
   obtain ⟨g1, g2, g3⟩ := ih (fun x hx => hm x (by simp [hx])) (le1_K hu h)
   refine ⟨g1, by simp [g2], fun i x y hx hy => ?_⟩
   cases i with
   | zero =>
    simp only [List.getElem?_cons_zero, Option.some.injEq] at hx hy
    subst hx hy
    exact ⟨_, h⟩
   | succ i => exact g3 i x y (by simpa using hx) (by simpa using hy)
def BRel (r : Ren) (tb : Tb) (i : Nat) (b : Blk) : Prop :=
 (∃ j, lk r i = some (some j) ∧ ((∃ f vs us K', b = .box f vs ∧ lk tb j = some (.box f us) ∧ leL r tb vs us K') ∨
  ∃ e e' t x d d', b = .row e t x d ∧ lk tb j = some (.row e' t x d') ∧ (∀ q, e = some q → e' = some q) ∧ (d = true → d' = true))) ∨ (lk r i = some none ∧ ∃ e t d, b = .row e t [] d)
theorem repL_mem {arr : Array Value} {l : List A1} (h : RepL w E tb arr l) : ∀ x ∈ l, ∃ u, RepA w E tb u x := fun x hx => by
 obtain ⟨i, hi⟩ := List.getElem?_of_mem hx
 obtain ⟨u, _, _, h3⟩ := h.2 i x hi
 exact ⟨u, h3⟩
theorem leB_K (hb : ∀ j f us, lk tb j = some (.box f us) → ∀ x ∈ us, ∃ u, RepA w E tb u x) : ∀ {l : Tb} {K : Prop}, leB r tb l K → K ∧ ∀ p ∈ l, BRel r tb p.1 p.2 := by
 intro l
 induction l with
 | nil => intro K h; exact ⟨h, fun p hp => by cases hp⟩
 | cons p l ih =>
  obtain ⟨i, b⟩ := p
  intro K h
  have fin : ∀ {K0 : Prop}, leB r tb l K → BRel r tb i b → K ∧ ∀ p ∈ (i, b) :: l, BRel r tb p.1 p.2 := fun {_} h1 h2 => by
   obtain ⟨g1, g2⟩ := ih h1
   refine ⟨g1, fun p hp => ?_⟩
   rcases List.mem_cons.1 hp with rfl | hp
   ·exact h2
   ·exact g2 p hp
  simp only [leB] at h
  split at h
  ·rename_i j hr
   split at h
   ·rename_i f vs g us hl
    cases hfg : f == g with
    | false => rw [hfg] at h; exact h.elim
    | true =>
     rw [hfg] at h
     have : f = g := by simpa using hfg
     subst this
     have h : leL r tb vs us (leB r tb l K) := h
     obtain ⟨g1, g2, g3⟩ := leL_K (hb j f us hl) h
     exact fin (K0 := K) g1 (.inl ⟨j, hr, .inl ⟨f, vs, us, _, rfl, hl, h⟩⟩)
   ·rename_i e t x d e' t' x' d' hl
    cases hc : eOk e e' && (!d || d') with
    | false => rw [hc] at h; exact h.elim
    | true =>
     rw [hc] at h
     simp only [cond_true] at h
     simp only [Bool.and_eq_true] at hc
     split at h
     ·rename_i ht
      subst ht
      obtain ⟨h1, h2⟩ := h
      have h1 : x' = x := h1
      subst h1
      refine fin (K0 := K) h2 (.inl ⟨j, hr, .inr ⟨e, e', t', x', d, d', rfl, hl, fun q hq => ?_, fun hd => ?_⟩⟩)
      ·subst hq
       have := hc.1
       simp only [eOk] at this
       exact (of_decide_eq_true this).symm
      ·subst hd
       have := hc.2
       simpa using this
     ·exact h.elim
   ·exact h.elim
  ·rename_i hr
   split at h
   ·rename_i e t x d
    obtain ⟨h1, h2⟩ := h
    subst h1
    exact fin (K0 := K) h2 (.inr ⟨hr, e, t, d, rfl⟩)
   ·exact h.elim
  ·exact h.elim
end
end Go.Proofs.YtpgglbnagphgoaaGreat
/- A state by another's names: the whole state. -/
namespace Go.Proofs.YtpgglbnagphgoaaGreat
open Go.RowKit
open SR (opt)

section
variable {P : Program} {Γ : Cfg} {W0 w w' : World} {E0 E E' E1 E2 : Env} {nl N base : Nat} {st : ASt} {a : Act} {o : Oper} {tb T tbw : Tb} {bs : List Nat} {r : Ren} {K : Prop}

theorem ren_bs (hS : ∀ i b, lk tbw i = some b → BRel r st.tb i b) {i b : Nat} (hi : (lk tbw i).isSome = true) (hb : (E.ren r tbw).bs i b) : ∃ j, lk r i = some (some j) ∧ (lk st.tb j).isSome = true ∧ E.bs j b := by
 obtain ⟨blk, hblk⟩ := Option.isSome_iff_exists.1 hi
 simp only [Env.ren] at hb
 split at hb
 ·rename_i j hj
  refine ⟨j, hj, ?_, hb.1⟩
  rcases hS i blk hblk with ⟨j', h1, ⟨f, vs, us, K', _, h2, _⟩ | ⟨e, e', t, x, d, d', _, h2, _⟩⟩ | ⟨h1, _⟩
  ·rw [hj] at h1; injection h1 with h1; injection h1 with h1; subst h1; rw [h2]; rfl
  ·rw [hj] at h1; injection h1 with h1; injection h1 with h1; subst h1; rw [h2]; rfl
  ·rw [hj] at h1; cases h1
 ·exact hb.elim
theorem ren_fz (hS : ∀ i b, lk tbw i = some b → BRel r st.tb i b) (b : Nat) (hb : Fz w E st.tb b) : Fz w (E.ren r tbw) tbw b :=
 ⟨hb.1, hb.2.1, fun i hi hbi => by
  obtain ⟨j, _, h2, h3⟩ := ren_bs hS hi hbi
  exact hb.2.2 j h2 h3⟩
theorem ren_drop (h : Sat W0 E0 nl N st E a w) (hS : ∀ i b, lk tbw i = some b → BRel r st.tb i b) {j : Nat} (hj : ran r j = false) (hjs : (lk st.tb j).isSome = true) (b : Nat) (hb : E.bs j b) : Fz w (E.ren r tbw) tbw b :=
 ⟨(h.mine j b hjs hb).1, h.rok hjs hb, fun i hi hbi => by
  obtain ⟨j', h1, h2, h3⟩ := ren_bs hS hi hbi
  have := h.disj j' j b h2 hjs h3 hb
  subst this
  rw [ran_mem.2 ⟨i, lk_mem h1⟩] at hj
  cases hj⟩
theorem ren_ref (hS : ∀ i b, lk tbw i = some b → BRel r st.tb i b) {i j off : Nat} {u : Value} (hij : lk r i = some (some j)) (h : refOk E st.tb u j off) : refOk (E.ren r tbw) tbw u i off := fun f vs hb => by
 have e : (E.ren r tbw).hd i = E.hd j := by simp [Env.ren, hij]
 rw [e]
 rcases hS i _ hb with ⟨j', h1, ⟨f', vs', us, K', _, h2, _⟩ | ⟨_, _, _, _, _, _, h2, _⟩⟩ | ⟨_, _, _, _, h2⟩
 ·rw [hij] at h1
  injection h1 with h1
  injection h1 with h1
  subst h1
  exact h _ _ h2
 ·cases h2
 ·cases h2
theorem ren_row (hS : ∀ i b, lk tbw i = some b → BRel r st.tb i b) {i j : Nat} (hij : lk r i = some (some j)) {e : Option TypeId} {t : Ty} {l : List t.den} {d : Bool} (hb : lk tbw i = some (.row e t l d)) : (E.ren r tbw).hv i = E.hv j ∧ ∃ e' d', lk st.tb j = some (.row e' t l d') := by
 refine ⟨by simp [Env.ren, hij], ?_⟩
 rcases hS i _ hb with ⟨j', h1, ⟨_, _, _, _, h2, _⟩ | ⟨e1, e', t1, x, d1, d', h2, h3, _⟩⟩ | ⟨h1, _⟩
 ·cases h2
 ·rw [hij] at h1
  injection h1 with h1
  injection h1 with h1
  subst h1
  cases h2
  exact ⟨e', d', h3⟩
 ·rw [hij] at h1; cases h1
theorem le1_rep (h : Sat W0 E0 nl N st E a w) (hS : ∀ i b, lk tbw i = some b → BRel r st.tb i b) {x y : A1} {u : Value} (hu : RepA w E st.tb u y) (hle : le1 r st.tb x y K) : RepA w (E.ren r tbw) tbw u x := by
 unfold le1 at hle
 split at hle
 ·rename_i cx cy
  have := (eqC_eq hle).1
  subst this
  exact RepC.mono hu (fun b hb _ => ⟨ren_fz hS b hb, rfl⟩) (Nat.le_refl _)
 ·rename_i z b
  have h1 : b = z := hle.1
  subst h1
  cases (show u = .bool b from hu)
  exact RepC.bool
 ·rename_i t l
  have h1 : ([] : List t.den) = l := hle.1
  subst h1
  cases (show u = .slice none 0 0 from hu)
  exact RepC.list (l := []) (fun _ _ => default) (Nat.le_refl _) (by omega) (fun h => absurd rfl h) (fun i x j u hx => by simp at hx)
 ·rename_i t l j p
  cases hr : ran r j with
  | true => rw [hr] at hle; exact hle.elim
  | false =>
   rw [hr] at hle
   simp only [cond_false] at hle
   split at hle
   ·rename_i e t1 l1 d hl
    have hu : RepA w E st.tb u (.sl j p) := hu
    obtain ⟨t', l', hat⟩ := hu.2 e t1 l1 d hl
    have := pathP_ok hat hle
    split at this
    ·rename_i ht
     subst ht
     have h1 : l' = l := this.1
     subst h1
     have hrow : RowOk _ _ _ _ _ _ _ _ := h.blks j _ hl
     exact (RepC.at_ hat hrow.rep).mono (fun b hb _ => ⟨hb.elim (ren_fz hS b) (ren_drop h hS hr (by rw [hl]; rfl) b), rfl⟩) (Nat.le_refl _)
    ·exact this.elim
   ·exact hle.elim
 ·rename_i t l j lo n
  cases hr : ran r j with
  | true => rw [hr] at hle; exact hle.elim
  | false =>
   rw [hr] at hle
   simp only [cond_false] at hle
   split at hle
   ·rename_i e t1 l1 d hl
    split at hle
    ·rename_i ht
     subst ht
     have h1 : (l1.drop lo).take n = l := hle.1
     subst h1
     obtain ⟨t2, l2, A, c, G, _, hrep, hp2, _, hG⟩ := listOf_ok (f := fun t2 l2 => .req ((⟨.list t2, l2⟩ : Cell) = ⟨.list t1, (l1.drop lo).take n⟩) (.ret { val := .one .nil })) h (x := .sub j lo n) hu (by simp only [listOf, hl]; exact ⟨trivial, trivial⟩)
     have hl2 : (⟨.list t2, l2⟩ : Cell) = ⟨.list t1, (l1.drop lo).take n⟩ := hp2.1
     show RepC w _ u ⟨.list t1, (l1.drop lo).take n⟩
     rw [← hl2]
     refine hrep.mono (fun b hb _ => ⟨?_, rfl⟩) (Nat.le_refl _)
     rcases hG b hb with hb | ⟨k, k1, k2, k3⟩
     ·exact ren_fz hS b hb
     ·simp only [rows1, List.mem_singleton] at k1
      subst k1
      exact ren_drop h hS hr k2 b k3
    ·exact hle.elim
   ·exact hle.elim
 ·rename_i z b
  have h1 : b = z := hle.1
  subst h1
  exact hu
 ·rename_i z b
  have h1 : b = z := hle.1
  subst h1
  exact bool_of (st := st) hu
 ·exact hu
 ·rename_i z b
  have h1 : b = z := hle.1
  subst h1
  exact hu
 ·rename_i i o j o'
  cases hb : Nat.beq o o' && hasR r i j with
  | false => rw [hb] at hle; exact hle.elim
  | true =>
   simp only [Bool.and_eq_true] at hb
   have := (beq_iff _ _).1 hb.1
   subst this
   exact ⟨hu.1, ren_ref hS (hasR_ok hb.2) hu.2⟩
 ·rename_i i p k o j p' k' o'
  cases hb : Nat.beq o o' && hasR r i j with
  | false => rw [hb] at hle; exact hle.elim
  | true =>
   rw [hb] at hle
   simp only [Bool.and_eq_true] at hb
   have := (beq_iff _ _).1 hb.1
   subst this
   obtain ⟨rfl, hk, _⟩ := eqP_ok hle
   have hk : k' = k := hk
   subst hk
   refine ⟨hu.1, fun e t l d hl => ?_⟩
   obtain ⟨g1, e', d', g2⟩ := ren_row (E := E) hS (hasR_ok hb.2) hl
   rw [g1]
   exact hu.2 e' t l d' g2
 ·rename_i i p j p'
  cases hb : hasR r i j with
  | false => rw [hb] at hle; exact hle.elim
  | true =>
   rw [hb] at hle
   obtain ⟨rfl, _⟩ := eqP_ok hle
   refine ⟨hu.1, fun e t l d hl => ?_⟩
   obtain ⟨g1, e', d', g2⟩ := ren_row (E := E) hS (hasR_ok hb) hl
   rw [g1]
   exact hu.2 e' t l d' g2
 ·rename_i i
  cases hb : isN r i with
  | false => rw [hb] at hle; exact hle.elim
  | true =>
   have hu : u = .slice none 0 0 := hu
   subst hu
   refine ⟨rfl, fun e t l d hl => ⟨t, l, ?_⟩⟩
   have : (E.ren r tbw).hv i = .slice none 0 0 := by simp [Env.ren, isN_ok hb]
   rw [this]
   exact .here
 ·rename_i i lo n j lo' n'
  cases hb : hasR r i j with
  | false => rw [hb] at hle; exact hle.elim
  | true =>
   rw [hb] at hle
   obtain ⟨h1, h2, _⟩ := hle
   have h1 : lo' = lo := h1
   have h2 : n' = n := h2
   subst h1 h2
   refine ⟨hu.1, fun e t l d hl => ?_⟩
   obtain ⟨g1, e', d', g2⟩ := ren_row (E := E) hS (hasR_ok hb) hl
   rw [g1]
   exact hu.2 e' t l d' g2
 ·rename_i f l g m
  cases hb : Nat.beq f g && hasL r l m with
  | false => rw [hb] at hle; exact hle.elim
  | true =>
   simp only [Bool.and_eq_true] at hb
   have := (beq_iff _ _).1 hb.1
   subst this
   obtain ⟨arr, h1, h2, h3⟩ := hu
   obtain ⟨g1, g2⟩ := hasL_ok hb.2
   refine ⟨arr, h1, by rw [g1]; exact h2, fun i id hi => ?_⟩
   have hil : i < m.length := by rw [← g1]; exact (List.getElem?_eq_some_iff.1 hi).1
   obtain ⟨u, k1, k2, k3⟩ := h3 i _ (List.getElem?_eq_getElem hil)
   exact ⟨u, k1, k2, ren_ref hS (g2 i id _ hi (List.getElem?_eq_getElem hil)) k3⟩
 ·exact hle.elim

theorem leL_rep (h : Sat W0 E0 nl N st E a w) (hS : ∀ i b, lk tbw i = some b → BRel r st.tb i b) {l m : List A1} {arr : Array Value} (hu : RepL w E st.tb arr m) (hle : leL r st.tb l m K) : K ∧ RepL w (E.ren r tbw) tbw arr l := by
 obtain ⟨g1, g2, g3⟩ := leL_K (repL_mem hu) hle
 refine ⟨g1, by rw [hu.1, g2], fun i x hi => ?_⟩
 have him : i < m.length := by rw [← g2]; exact (List.getElem?_eq_some_iff.1 hi).1
 obtain ⟨u, h1, h2, h3⟩ := hu.2 i _ (List.getElem?_eq_getElem him)
 obtain ⟨K', h4⟩ := g3 i x _ hi (List.getElem?_eq_getElem him)
 exact ⟨u, h1, h2, le1_rep h hS h3 h4⟩
theorem leT_rep (h : Sat W0 E0 nl N st E a w) (hS : ∀ i b, lk tbw i = some b → BRel r st.tb i b) : ∀ {l m : List (Bool × List A1)} {K : Prop} {us : Nat → Value} , (∀ (i : Nat) (c : Bool × List A1), m[i]? = some c → RepT w E st.tb (us i) c) → leT r st.tb l m K →
  K ∧ l.length = m.length ∧ ∀ (i : Nat) (c : Bool × List A1), l[i]? = some c → RepT w (E.ren r tbw) tbw (us i) c := by
 intro l
 induction l with
 | nil => intro m K us hm hle; cases m with
  | nil => exact ⟨hle, rfl, fun i c hi => by simp at hi⟩
  | cons => exact hle.elim
 | cons x l ih =>
  intro m K us hm hle
  cases m with
  | nil => exact hle.elim
  | cons y m =>
   obtain ⟨g, x⟩ := x
   obtain ⟨g', y⟩ := y
   simp only [leT] at hle
   cases hg : g == g' with
   | false => rw [hg] at hle; exact hle.elim
   | true =>
    rw [hg] at hle
    have : g = g' := by simpa using hg
    subst this
    have hle : leL r st.tb x y (leT r st.tb l m K) := hle
    have h0 := hm 0 (g, y) rfl
    have key : leT r st.tb l m K ∧ RepT w (E.ren r tbw) tbw (us 0) (g, x) := by
     cases g with
     | true =>
      obtain ⟨arr, h1, h2⟩ := h0
      obtain ⟨k1, k2⟩ := leL_rep h hS h2 hle
      exact ⟨k1, arr, h1, k2⟩
     | false =>
      obtain ⟨b, h1, h2⟩ := h0
      have h1 : y = [b] := h1
      subst h1
      obtain ⟨k1, k2, k3⟩ := leL_K (w := w) (E := E) (m := [b]) (fun z hz => by simp only [List.mem_singleton] at hz; subst hz; exact ⟨_, h2⟩) hle
      match x, k2 with
      | [z], _ =>
       obtain ⟨K', hz⟩ := k3 0 z b rfl rfl
       exact ⟨k1, z, rfl, le1_rep h hS h2 hz⟩
    obtain ⟨g1, g2, g3⟩ := ih (us := fun i => us (i + 1)) (fun i c hi => hm (i + 1) c (by simpa using hi)) key.1
    refine ⟨g1, by simp [g2], fun i c hi => ?_⟩
    cases i with
    | zero =>
     simp only [List.getElem?_cons_zero, Option.some.injEq] at hi
     subst hi
     exact key.2
    | succ i => exact g3 i c (by simpa using hi)
theorem leV_rep (h : Sat W0 E0 nl N st E a w) (hS : ∀ i b, lk tbw i = some b → BRel r st.tb i b) {x y : AV} {u : Value} (hu : RepV w E st.tb u y) (hle : leV r st.tb x y K) : K ∧ RepV w (E.ren r tbw) tbw u x := by
 cases x with
 | one x => cases y with
  | one y => exact ⟨le1_K (show RepA w E st.tb u y from hu) hle, le1_rep h hS hu hle⟩
  | _ => exact hle.elim
 | agg l => cases y with
  | agg m =>
   obtain ⟨arr, h1, h2⟩ := hu
   obtain ⟨k1, k2⟩ := leL_rep h hS h2 hle
   exact ⟨k1, arr, h1, k2⟩
  | _ => exact hle.elim
 | tup l => cases y with
  | tup m =>
   obtain ⟨arr, h1, h2, h3⟩ := hu
   obtain ⟨k1, k2, k3⟩ := leT_rep h hS (us := fun i => (arr[i]?).getD undef) (fun i c hi => by
    obtain ⟨u, g1, g2⟩ := h3 i c hi
    rw [g1]; exact g2) hle
   refine ⟨k1, arr, h1, by rw [h2, k2], fun i c hi => ?_⟩
   have him : i < arr.size := by rw [h2, ← k2]; exact (List.getElem?_eq_some_iff.1 hi).1
   have := k3 i c hi
   rw [Array.getElem?_eq_getElem him] at this
   exact ⟨_, Array.getElem?_eq_getElem him, this⟩
  | _ => exact hle.elim
theorem leF_rep (h : Sat W0 E0 nl N st E a w) (hS : ∀ i b, lk tbw i = some b → BRel r st.tb i b) : ∀ {fr : Fr} {K : Prop}, leF r st fr K → K ∧ ∀ p ∈ fr, ∃ u, a.tmps[p.1]? = some u ∧ RepV w (E.ren r tbw) tbw u p.2 := by
 intro fr
 induction fr with
 | nil => intro K hle; exact ⟨hle, fun p hp => by cases hp⟩
 | cons p fr ih =>
  obtain ⟨i, v⟩ := p
  intro K hle
  simp only [leF] at hle
  split at hle
  ·rename_i u hu
   obtain ⟨val, h1, h2⟩ := h.slots i u hu
   obtain ⟨k1, k2⟩ := leV_rep h hS h2 hle
   obtain ⟨g1, g2⟩ := ih k1
   refine ⟨g1, fun p hp => ?_⟩
   rcases List.mem_cons.1 hp with rfl | hp
   ·exact ⟨val, h1, k2⟩
   ·exact g2 p hp
  ·exact hle.elim
theorem leF_K (h : Sat W0 E0 nl N st E a w) : ∀ {fr : Fr} {K : Prop}, leF r st fr K → K := by
 intro fr
 induction fr with
 | nil => intro K hle; exact hle
 | cons p fr ih =>
  obtain ⟨i, v⟩ := p
  intro K hle
  simp only [leF] at hle
  split at hle
  ·rename_i u hu
   obtain ⟨val, h1, h2⟩ := h.slots i u hu
   refine ih (K := K) ?_
   exact (leV_rep (tbw := []) h (fun i b hb => by cases hb) h2 hle).1
  ·exact hle.elim
theorem num_le {x y : A1} (hle : le1 r tb x y K) (hx : num1 x = false) : num1 y = false := by
 cases hy : num1 y with
 | false => rfl
 | true =>
  exfalso
  cases y with
  | c y =>
   obtain ⟨ty, y⟩ := y
   cases x with
   | c x =>
    have := (eqC_eq (K := K) (y := ⟨ty, y⟩) (x := x) (by
     cases x with | mk tx x => cases tx <;> exact hle)).1
    subst this
    rw [hx] at hy; cases hy
   | lit b => cases hx
   | _ => cases ty <;> exact hle.elim
  | lit b =>
   cases x with
   | c x => obtain ⟨tx, x⟩ := x; cases tx <;> first | exact hle.elim | cases hx
   | lit => cases hx
   | _ => exact hle.elim
  | _ => cases hy
end
end Go.Proofs.YtpgglbnagphgoaaGreat
/- A state by another's names: it holds. -/
namespace Go.Proofs.YtpgglbnagphgoaaGreat
open Go.RowKit
open SR (opt)

section
variable {P : Program} {Γ : Cfg} {W0 w w' : World} {E0 E E' E1 E2 : Env} {nl N base : Nat} {st : ASt} {a : Act} {o : Oper} {tb T tbw : Tb} {bs : List Nat} {r : Ren} {K : Prop}

theorem le_ok (h : Sat W0 E0 nl N st E a w) {fr : Fr} (nx : Nat) (hle : le st fr tbw K) : K ∧ ∃ E', Sat W0 E0 nl N ⟨fr, tbw, nx⟩ E' a w := by
 unfold le at hle
 split at hle
 ·rename_i r _
  cases hok : okRen r with
  | false => rw [hok] at hle; exact hle.elim
  | true =>
   rw [hok] at hle
   simp only [cond_true] at hle
   obtain ⟨ok1, ok2, ok3⟩ := okRen_ok hok
   have hB := leF_K h hle
   obtain ⟨hK, hS'⟩ := leB_K (w := w) (E := E) (fun j f us hl => by
    obtain ⟨cur, T, g1, g2, g3, _⟩ := (h.blks j _ hl : BlkOk _ _ _ _ _ (.box f us))
    exact repL_mem g3) hB
   have hS : ∀ i b, lk tbw i = some b → BRel r st.tb i b := fun i b hb => hS' _ (lk_mem hb)
   obtain ⟨_, hF⟩ := leF_rep h hS hle
   refine ⟨hK, E.ren r tbw, h.defers, h.size, fun i v hi => hF _ (lk_mem hi), fun i b hb => ?_, fun i i' b hi hi' hbi hbi' => ?_, fun i b hi hbi => ?_, fun i hlt hi => ?_, h.frame, h.big, h.ro, h.roE, h.os, h.tape, h.output⟩
   ·have hb : lk tbw i = some b := hb
    rcases hS i b hb with ⟨j, hr, ⟨f, vs, us, K', rfl, h2, h3⟩ | ⟨e, e', t, x, d, d', rfl, h2, h3, h4⟩⟩ | ⟨hr, e, t, d, rfl⟩
    ·obtain ⟨cur, T, g1, g2, g3, g4⟩ := (h.blks j _ h2 : BlkOk _ _ _ _ _ (.box f us))
     have e1 : (E.ren r tbw).hd i = E.hd j := by simp [Env.ren, hr]
     obtain ⟨_, g5⟩ := leL_rep h hS g3 h3
     refine ⟨cur, T, by rw [e1]; exact g1, ?_, g5, fun hf => ?_⟩
     ·rw [e1]
      simp only [Env.ren, hr, hb]
      exact ⟨g2, trivial⟩
     ·obtain ⟨g6, g7⟩ := g4 hf
      rw [e1]
      refine ⟨g6, fun off z hz hn => ?_⟩
      obtain ⟨_, k2, k3⟩ := leL_K (repL_mem g3) h3
      have hlt : off < us.length := by rw [← k2]; exact (List.getElem?_eq_some_iff.1 hz).1
      obtain ⟨K'', k4⟩ := k3 off z _ hz (List.getElem?_eq_getElem hlt)
      exact g7 off _ (List.getElem?_eq_getElem hlt) (num_le k4 hn)
    ·have hrow : RowOk _ _ _ _ _ _ _ _ := h.blks j _ h2
     have e1 : (E.ren r tbw).hv i = E.hv j := by simp [Env.ren, hr]
     have hjs : (lk st.tb j).isSome = true := by rw [h2]; rfl
     show RowOk w (Fz w (E.ren r tbw) tbw) ((E.ren r tbw).bs i) e ((E.ren r tbw).hv i) t x d
     rw [e1]
     rcases hrow with ⟨k1, k2⟩ | ⟨b, c, e0, cur, g, S, hv, hB', hh, he, hs, hc, hm, hg, hSS, hSd, hrr⟩
     ·exact .inl ⟨k1, k2⟩
     ·have hbs : ∀ b', (E.ren r tbw).bs i b' ↔ E.bs j b' ∧ (d = false → b = b') := fun b' => by
       simp only [Env.ren, hr, hb]
       cases d with
       | true => simp
       | false => simp [hv, Value.ownBlock]
      refine .inr ⟨b, c, e0, cur, g, fun p q b' => d = true ∧ S p q b', hv, (hbs b).2 ⟨hB', fun _ => rfl⟩, hh, fun q hq => he q (h3 q hq), hs, hc, hm, hg, fun p q b' hb' => ⟨(hbs b').2 ⟨(hSS p q b' hb'.2).1, fun hd => by rw [hb'.1] at hd; cases hd⟩, (hSS p q b' hb'.2).2⟩, fun p q p' q' b' h5 h6 => hSd p q p' q' b' h5.2 h6.2, fun p z q cl hz hq => ?_⟩
      have hold := hrr p z q cl hz hq
      cases d with
      | true =>
       rw [h4 rfl] at hold
       simp only [if_true, true_and] at hold ⊢
       exact hold
      | false =>
       simp only [Bool.false_eq_true, if_false]
       cases d' with
       | true =>
        simp only [if_true] at hold
        refine hold.rep.mono (fun b' hb' hlt => ⟨⟨hlt, h.rok hjs (hSS p q b' hb').1, fun i' hi' hbi' => ?_⟩, rfl⟩) (Nat.le_refl _)
        obtain ⟨j', s1, s2, s3⟩ := ren_bs hS hi' hbi'
        have := h.disj j' j b' s2 hjs s3 (hSS p q b' hb').1
        subst this
        have := ok1 i' i j' s1 hr
        subst this
        exact (hSS p q b' hb').2 (((hbs b').1 hbi').2 rfl).symm
       | false =>
        simp only [Bool.false_eq_true, if_false] at hold
        exact hold.mono (fun b' hb' _ => ⟨ren_fz hS b' hb', rfl⟩) (Nat.le_refl _)
    ·show RowOk w _ _ e ((E.ren r tbw).hv i) t [] d
     exact .inl ⟨by simp [Env.ren, hr], rfl⟩
   ·obtain ⟨j, k1, k2, k3⟩ := ren_bs hS hi hbi
    obtain ⟨j', k1', k2', k3'⟩ := ren_bs hS hi' hbi'
    have := h.disj j j' b k2 k2' k3 k3'
    subst this
    exact ok1 i i' j k1 k1'
   ·obtain ⟨j, k1, k2, k3⟩ := ren_bs hS hi hbi
    exact h.mine j b k2 k3
   ·obtain ⟨blk, hblk⟩ := Option.isSome_iff_exists.1 (show (lk tbw i).isSome = true from hi)
    have key : lk r i = some (some i) ∧ (lk st.tb i).isSome = true := by
     rcases hS i blk hblk with ⟨j, hr, ⟨f, vs, us, K', _, h2, _⟩ | ⟨e, e', t, x, d, d', _, h2, _⟩⟩ | ⟨hr, _⟩
     ·have := ok2 i _ hr hlt
      injection this with this
      subst this
      exact ⟨hr, by rw [h2]; rfl⟩
     ·have := ok2 i _ hr hlt
      injection this with this
      subst this
      exact ⟨hr, by rw [h2]; rfl⟩
     ·have := ok2 i _ hr hlt
      cases this
    obtain ⟨k1, k2⟩ := key
    obtain ⟨l1, l2, l3⟩ := h.lent i hlt k2
    refine ⟨by simp only [Env.ren, k1]; exact l1, by simp only [Env.ren, k1]; exact l2, fun b hb hlt' => ?_⟩
    simp only [Env.ren, k1] at hb
    exact l3 b hb.1 hlt'
 ·exact hle.elim
end
end Go.Proofs.YtpgglbnagphgoaaGreat
/- A row with holes for one without, and back. No program is in sight. -/
namespace Go.Proofs.YtpgglbnagphgoaaGreat
open Go.RowKit
open SR (opt)

section
variable {W0 w w' : World} {E0 E : Env} {nl N base : Nat} {st : ASt} {a : Act} {tb T tbw : Tb} {r : Ren} {K : Prop}

inductive Alike : (t : Ty) → List t.den → (t' : Ty) → List t'.den → Prop
 | to {s : SN} {x : List s.den} : Alike (.hol s) (x.map fun y => (y, true)) (.st s) x
 | of {s : SN} {x : List s.den} : Alike (.st s) x (.hol s) (x.map fun y => (y, true))
theorem Alike.len {t t' : Ty} {x : List t.den} {x' : List t'.den} (h : Alike t x t' x') : x.length = x'.length ∧ t.wd = t'.wd := by
 cases h <;> exact ⟨by simp, rfl⟩
theorem Alike.get {t t' : Ty} {x : List t.den} {x' : List t'.den} (h : Alike t x t' x') {k : Nat} {y : t.den} (hy : x[k]? = some y) : ∃ y', x'[k]? = some y' ∧ t'.cells y' = t.cells y := by
 cases h with
 | to =>
  rw [List.getElem?_map, Option.map_eq_some_iff] at hy
  obtain ⟨z, h1, rfl⟩ := hy
  exact ⟨z, h1, rfl⟩
 | of => exact ⟨(y, true), by rw [List.getElem?_map, hy]; rfl, rfl⟩
theorem Alike.symm {t t' : Ty} {x : List t.den} {x' : List t'.den} (h : Alike t x t' x') : Alike t' x' t x := by
 cases h with
 | to => exact .of
 | of => exact .to
theorem Alike.row {F B : Nat → Prop} {e : Option TypeId} {v : Value} {t t' : Ty} {x : List t.den} {x' : List t'.den} {d : Bool} (h : Alike t x t' x') (hr : RowOk w F B e v t' x' d) : RowOk w F B e v t x d := by
 obtain ⟨hl, hw⟩ := h.len
 rcases hr with ⟨h1, h2⟩ | ⟨b, c, e0, cur, g, S, hv, hB, hh, he, hs, hc, hm, hg, hS, hSd, hr⟩
 ·refine .inl ⟨h1, ?_⟩
  subst h2
  exact List.eq_nil_of_length_eq_zero (by simpa using hl)
 ·rw [← hl] at hv hc
  rw [← hw] at hs
  refine .inr ⟨b, c, e0, cur, g, S, hv, hB, hh, he, hs, hc, hm, fun i y j u hi hj => ?_, hS, hSd, fun i y j u hi hj => ?_⟩
  ·obtain ⟨y', h1, h2⟩ := h.get hi
   rw [hw]
   exact hg i y' j u h1 (by rw [h2]; exact hj)
  ·obtain ⟨y', h1, h2⟩ := h.get hi
   exact hr i y' j u h1 (by rw [h2]; exact hj)
theorem Alike.at_ {v v1 : Value} {t t' t1 : Ty} {x : List t.den} {x' : List t'.den} {l1 : List t1.den} {p : List (Nat × Nat)} (h : Alike t x t' x') (hat : At w v t' x' p v1 t1 l1) : (p = [] ∧ v1 = v) ∨ At w v t x p v1 t1 l1 := by
 obtain ⟨hl, hw⟩ := h.len
 cases hat with
 | here => exact .inl ⟨rfl, rfl⟩
 | step hx hn hc hat =>
  obtain ⟨y', h1, h2⟩ := h.symm.get hx
  refine .inr (.step h1 (by rw [h2]; exact hn) (by rw [hw]; exact hc) hat)
theorem cvt_fz {j : Nat} {b0 : Blk} (hj : (lk tb j).isSome = true) (b : Nat) : Fz w E ((j, b0) :: erl [j] tb) b ↔ Fz w E tb b := by
 have key : ∀ id, (lk ((j, b0) :: erl [j] tb) id).isSome = (lk tb id).isSome := fun id => by
  rw [lk_cons, lk_erl]
  by_cases e : id = j
  ·subst e; simp [hj]
  ·simp [e]
 simp only [Fz, key]
theorem cvt_repA {j : Nat} {e : Option TypeId} {d : Bool} {t t' : Ty} {x : List t.den} {x' : List t'.den} (h : Alike t x t' x') (hj : lk tb j = some (.row e t' x' d)) {v : Value} {z : A1} (hz : RepA w E tb v z) : RepA w E ((j, .row e t x d) :: erl [j] tb) v z := by
 have hf : ∀ b, Fz w E tb b → Fz w E ((j, .row e t x d) :: erl [j] tb) b := fun b hb => (cvt_fz (by rw [hj]; rfl) b).2 hb
 have hl : ∀ id, lk ((j, Blk.row e t x d) :: erl [j] tb) id = if id = j then some (.row e t x d) else lk tb id := fun id => by
  rw [lk_cons, lk_erl]
  by_cases e : id = j <;> simp [e]
 have href : ∀ {v : Value} {id off : Nat}, refOk E tb v id off → refOk E ((j, .row e t x d) :: erl [j] tb) v id off := fun {v id off} hr f vs hv => by
  rw [hl] at hv
  by_cases e : id = j
  ·rw [if_pos e] at hv; cases hv
  ·rw [if_neg e] at hv; exact hr f vs hv
 cases z with
 | c x => exact RepC.mono hz (fun b hb _ => ⟨hf b hb, rfl⟩) (Nat.le_refl _)
 | lit b => exact hz
 | nil => exact hz
 | val u => exact hz
 | ref id off => exact ⟨hz.1, href hz.2⟩
 | roe t l k off =>
  obtain ⟨b, o, g, h1, h2, h3, h4⟩ := hz
  exact ⟨b, o, g, h1, hf b h2, h3, fun i y q u hy hq => ⟨(h4 i y q u hy hq).1, (h4 i y q u hy hq).2.mono (fun b hb _ => ⟨hf b hb, rfl⟩) (Nat.le_refl _)⟩⟩
 | ptr id p k off =>
  refine ⟨hz.1, fun e2 t2 l2 d2 h2 => ?_⟩
  rw [hl] at h2
  by_cases e : id = j
  ·subst e
   rw [if_pos rfl] at h2
   cases h2
   obtain ⟨b, o, n, c, t1, l1, hat, hk, hv⟩ := hz.2 _ _ _ _ hj
   rcases h.at_ hat with ⟨rfl, hv1⟩ | hat'
   ·obtain ⟨_, e2⟩ := hat.nil_inv
    cases e2
    refine ⟨b, o, n, c, t, x, by rw [hv1]; exact .here, by rw [h.len.1]; exact hk, by rw [h.len.2]; exact hv⟩
   ·exact ⟨b, o, n, c, t1, l1, hat', hk, hv⟩
  ·rw [if_neg e] at h2
   exact hz.2 _ _ _ _ h2
 | sl id p =>
  refine ⟨hz.1, fun e2 t2 l2 d2 h2 => ?_⟩
  rw [hl] at h2
  by_cases e : id = j
  ·subst e
   rw [if_pos rfl] at h2
   cases h2
   obtain ⟨t1, l1, hat⟩ := hz.2 _ _ _ _ hj
   rcases h.at_ hat with ⟨rfl, hv1⟩ | hat'
   ·exact ⟨t, x, by rw [hv1]; exact .here⟩
   ·exact ⟨t1, l1, hat'⟩
  ·rw [if_neg e] at h2
   exact hz.2 _ _ _ _ h2
 | sub id lo n =>
  refine ⟨hz.1, fun e2 t2 l2 d2 h2 => ?_⟩
  rw [hl] at h2
  by_cases e : id = j
  ·subst e
   rw [if_pos rfl] at h2
   cases h2
   obtain ⟨A, c, h3, h4, h5, h6, h7⟩ := hz.2 _ _ _ _ hj
   refine ⟨A, c, h3, h4, h5, by rw [h.len.1]; exact h6, by rw [h.len.1, h.len.2]; exact h7⟩
  ·rw [if_neg e] at h2
   exact hz.2 _ _ _ _ h2
 | fn f caps =>
  obtain ⟨arr, h1, h2, h3⟩ := hz
  refine ⟨arr, h1, h2, fun i id hi => ?_⟩
  obtain ⟨u, h4, h5, h6⟩ := h3 i id hi
  exact ⟨u, h4, h5, href h6⟩
theorem cvt_repL {j : Nat} {e : Option TypeId} {d : Bool} {t t' : Ty} {x : List t.den} {x' : List t'.den} (h : Alike t x t' x') (hj : lk tb j = some (.row e t' x' d)) {arr : Array Value} {l : List A1} (hz : RepL w E tb arr l) : RepL w E ((j, .row e t x d) :: erl [j] tb) arr l :=
 ⟨hz.1, fun i y hi => let ⟨u, h1, h2, h3⟩ := hz.2 i y hi; ⟨u, h1, h2, cvt_repA h hj h3⟩⟩
theorem cvt_repV {j : Nat} {e : Option TypeId} {d : Bool} {t t' : Ty} {x : List t.den} {x' : List t'.den} (h : Alike t x t' x') (hj : lk tb j = some (.row e t' x' d)) {v : Value} {z : AV} (hz : RepV w E tb v z) : RepV w E ((j, .row e t x d) :: erl [j] tb) v z := by
 cases z with
 | one z => exact cvt_repA h hj hz
 | agg l =>
  obtain ⟨arr, h1, h2⟩ := hz
  exact ⟨arr, h1, cvt_repL h hj h2⟩
 | tup l =>
  obtain ⟨arr, h1, h2, h3⟩ := hz
  refine ⟨arr, h1, h2, fun i c hi => ?_⟩
  obtain ⟨u, h4, h5⟩ := h3 i c hi
  refine ⟨u, h4, ?_⟩
  obtain ⟨ag, m⟩ := c
  cases ag with
  | true =>
   obtain ⟨arr', k1, k2⟩ := h5
   exact ⟨arr', k1, cvt_repL h hj k2⟩
  | false =>
   obtain ⟨z, k1, k2⟩ := h5
   exact ⟨z, k1, cvt_repA h hj k2⟩
theorem Sat.cvt (hs : Sat W0 E0 nl N st E a w) {j : Nat} {e : Option TypeId} {d : Bool} {t t' : Ty} {x : List t.den} {x' : List t'.den} (h : Alike t x t' x') (hj : lk st.tb j = some (.row e t' x' d)) : Sat W0 E0 nl N ⟨st.fr, (j, .row e t x d) :: erl [j] st.tb, st.nx⟩ E a w := by
 have hl : ∀ id, lk ((j, Blk.row e t x d) :: erl [j] st.tb) id = if id = j then some (.row e t x d) else lk st.tb id := fun id => by
  rw [lk_cons, lk_erl]
  by_cases e : id = j <;> simp [e]
 have hsome : ∀ id, (lk ((j, Blk.row e t x d) :: erl [j] st.tb) id).isSome = (lk st.tb id).isSome := fun id => by
  rw [hl]
  by_cases e : id = j
  ·subst e; simp [hj]
  ·simp [e]
 have hjs : (lk st.tb j).isSome = true := by rw [hj]; rfl
 refine ⟨hs.defers, hs.size, fun i v hi => ?_, fun id b hb => ?_, fun id id' b h1 h2 => hs.disj id id' b (by rw [← hsome]; exact h1) (by rw [← hsome]; exact h2), fun id b h1 => hs.mine id b (by rw [← hsome]; exact h1), fun id h1 h2 => hs.lent id h1 (by rw [← hsome]; exact h2), hs.frame, hs.big, hs.ro, hs.roE, hs.os, hs.tape, hs.output⟩
 ·obtain ⟨u, h1, h2⟩ := hs.slots i v hi
  exact ⟨u, h1, cvt_repV h hj h2⟩
 ·have hb : lk ((j, Blk.row e t x d) :: erl [j] st.tb) id = some b := hb
  rw [hl] at hb
  by_cases he : id = j
  ·subst he
   rw [if_pos rfl] at hb
   injection hb with hb
   subst hb
   exact RowOk.mono (h.row (hs.blks id _ hj : RowOk _ _ _ _ _ _ _ _)) (fun b hb _ => ⟨(cvt_fz hjs b).2 hb, rfl⟩) (fun b hb => ⟨hb, rfl⟩) (Nat.le_refl _)
  ·rw [if_neg he] at hb
   have ho := hs.blks id b hb
   cases b with
   | box f vs =>
    obtain ⟨cur, T, h1, h2, h3, h4⟩ := ho
    exact ⟨cur, T, h1, h2, cvt_repL h hj h3, h4⟩
   | row e2 t2 l2 d2 => exact RowOk.mono ho (fun b hb _ => ⟨(cvt_fz hjs b).2 hb, rfl⟩) (fun b hb => ⟨hb, rfl⟩) (Nat.le_refl _)
theorem cvt1_ok {j : Nat} {e : Option TypeId} {d : Bool} {t t' : Ty} {x : List t.den} {x' : List t'.den} {f : Tb → Prop} {fr : Fr} {nx : Nat} (hs : Sat W0 E0 nl N ⟨fr, T, nx⟩ E a w) (hj : lk T j = some (.row e t' x' d)) (hp : cvt1 T j e d t x t' x' f) : ∃ T', f T' ∧ Sat W0 E0 nl N ⟨fr, T', nx⟩ E a w := by
 unfold cvt1 at hp
 split at hp
 ·split at hp
  ·rename_i h
   subst h
   exact ⟨_, hp, hs.cvt .to hj⟩
  ·exact ⟨T, hp, hs⟩
 ·split at hp
  ·rename_i h
   subst h
   obtain ⟨h1, h2⟩ := hp
   simp only at h1
   subst h1
   exact ⟨_, h2, hs.cvt .of hj⟩
  ·exact ⟨T, hp, hs⟩
 ·exact ⟨T, hp, hs⟩
theorem cvtP_ok {f : Tb → Prop} {fr : Fr} {nx : Nat} : ∀ {l T : Tb}, Sat W0 E0 nl N ⟨fr, T, nx⟩ E a w → cvtP r l T f → ∃ T', f T' ∧ Sat W0 E0 nl N ⟨fr, T', nx⟩ E a w := by
 intro l
 induction l with
 | nil => intro T hs hp; exact ⟨T, hp, hs⟩
 | cons q l ih =>
  obtain ⟨i, b⟩ := q
  intro T hs hp
  unfold cvtP at hp
  split at hp
  ·split at hp
   ·rename_i hl
    obtain ⟨T', h1, h2⟩ := cvt1_ok hs hl hp
    exact ih h2 h1
   ·exact ih hs hp
  ·exact ih hs hp
theorem leC_ok (h : Sat W0 E0 nl N st E a w) {fr : Fr} (nx : Nat) (hle : leC st fr tbw K) : K ∧ ∃ E', Sat W0 E0 nl N ⟨fr, tbw, nx⟩ E' a w := by
 unfold leC at hle
 split at hle
 ·obtain ⟨T', h1, h2⟩ := cvtP_ok (fr := st.fr) (nx := st.nx) h hle
  exact le_ok h2 nx h1
 ·exact hle.elim
end
end Go.Proofs.YtpgglbnagphgoaaGreat
/- What an operation looks at: states that agree on that make the same of it. No program is in sight. -/
namespace Go.Proofs.YtpgglbnagphgoaaGreat
open Go.RowKit
open SR (opt)

def Ag (tb tb' : Tb) : Nat → List Nat → Prop
 | 0, l => ∀ i ∈ l, lk tb' i = lk tb i
 | n + 1, l => ∀ i ∈ l, lk tb' i = lk tb i ∧ ∀ b, lk tb i = some b → Ag tb tb' n (idsB b)
theorem Ag.sub {tb tb' : Tb} {n : Nat} {l m : List Nat} (h : Ag tb tb' n l) (hs : ∀ i ∈ m, i ∈ l) : Ag tb tb' n m := by
 cases n with
 | zero => exact fun i hi => h i (hs i hi)
 | succ n => exact fun i hi => h i (hs i hi)
theorem Ag.at {tb tb' : Tb} {n : Nat} {l : List Nat} (h : Ag tb tb' n l) {i : Nat} (hi : i ∈ l) : lk tb' i = lk tb i := by
 cases n with
 | zero => exact h i hi
 | succ n => exact (h i hi).1
theorem Ag.down {tb tb' : Tb} {n : Nat} {l : List Nat} (h : Ag tb tb' (n + 1) l) : Ag tb tb' n l := by
 induction n generalizing l with
 | zero => exact fun i hi => (h i hi).1
 | succ n ih => exact fun i hi => ⟨(h i hi).1, fun b hb => ih ((h i hi).2 b hb)⟩
theorem Ag.zero {tb tb' : Tb} : ∀ {n : Nat} {l : List Nat}, Ag tb tb' n l → Ag tb tb' 0 l := fun {n} {l} h i hi => h.at hi
theorem Ag.box {tb tb' : Tb} {n : Nat} {l : List Nat} (h : Ag tb tb' (n + 1) l) {i : Nat} (hi : i ∈ l) {f : Bool} {vs : List A1} (hl : lk tb i = some (.box f vs)) : Ag tb tb' n (idsL vs) := (h i hi).2 _ hl
theorem Ag.nil {tb tb' : Tb} {n : Nat} : Ag tb tb' n [] := by
 cases n with
 | zero => exact fun i hi => by cases hi
 | succ n => exact fun i hi => by cases hi
theorem Ag.append {tb tb' : Tb} {n : Nat} {l m : List Nat} (h1 : Ag tb tb' n l) (h2 : Ag tb tb' n m) : Ag tb tb' n (l ++ m) := by
 cases n with
 | zero => exact fun i hi => (List.mem_append.1 hi).elim (h1 i) (h2 i)
 | succ n => exact fun i hi => (List.mem_append.1 hi).elim (h1 i) (h2 i)
theorem Ag.left {tb tb' : Tb} {n : Nat} {l m : List Nat} (h : Ag tb tb' n (l ++ m)) : Ag tb tb' n l := h.sub fun i hi => List.mem_append.2 (.inl hi)
theorem Ag.right {tb tb' : Tb} {n : Nat} {l m : List Nat} (h : Ag tb tb' n (l ++ m)) : Ag tb tb' n m := h.sub fun i hi => List.mem_append.2 (.inr hi)

theorem opt_congr {α : Type} {o o' : Option α} {f g : α → SR} (h : o' = o) (hf : ∀ x, o = some x → f x = g x) : opt o' f = opt o g := by
 subst h
 cases o' with
 | none => rfl
 | some x => exact hf x rfl
theorem bif_congr {b b' : Bool} {r r' s s' : SR} (h : b' = b) (h1 : b = true → r' = r) (h2 : b = false → s' = s) : (bif b' then r' else s') = (bif b then r else s) := by
 subst h
 cases b' with
 | true => exact h1 rfl
 | false => exact h2 rfl

section
variable {tb tb' : Tb}
theorem listOf_loc {a : A1} {f g : (t : Ty) → List t.den → SR} (h : Ag tb tb' 0 (ids1 a)) (hf : ∀ t l, f t l = g t l) : listOf tb' a f = listOf tb a g := by
 have hfg : f = g := funext fun t => funext fun l => hf t l
 subst hfg
 cases a with
 | sl i p => simp only [listOf]; rw [h i (by simp [ids1])]
 | sub i lo n => simp only [listOf]; rw [h i (by simp [ids1])]
 | c x => obtain ⟨t, x⟩ := x; cases t <;> rfl
 | _ => rfl
theorem decC_loc {ty : Ty} {a : A1} {f g : Cell → SR} (h : Ag tb tb' 0 (ids1 a)) (hf : ∀ c, f c = g c) : decC tb' ty a f = decC tb ty a g := by
 have hfg : f = g := funext hf
 subst hfg
 cases a with
 | sl i p => simp only [decC]; rw [h i (by simp [ids1])]
 | sub i lo n => simp only [decC]; rw [h i (by simp [ids1])]
 | _ => rfl
theorem decL_loc : ∀ {ts : List Ty} {l : List A1} {f g : List Cell → SR}, Ag tb tb' 0 (idsL l) → (∀ c, f c = g c) → decL tb' ts l f = decL tb ts l g := by
 intro ts
 induction ts with
 | nil => intro l f g h hf; cases l with
  | nil => exact hf _
  | cons => rfl
 | cons t ts ih =>
  intro l f g h hf
  cases l with
  | nil => rfl
  | cons a l =>
   simp only [decL]
   exact decC_loc (Ag.left h) fun c => ih (Ag.right h) fun m => hf _
theorem decT_loc {t : Ty} {l : List A1} {f g : t.den → SR} (h : Ag tb tb' 0 (idsL l)) (hf : ∀ x, f x = g x) : decT tb' t l f = decT tb t l g :=
 decL_loc h fun c => opt_congr rfl fun x _ => hf x
theorem decV_loc {t : Ty} {v : AV} {f g : t.den → SR} (h : Ag tb tb' 0 (idsA v)) (hf : ∀ x, f x = g x) : decV tb' t v f = decV tb t v g := by
 cases v with
 | one a => exact bif_congr rfl (fun _ => rfl) fun _ => decT_loc (l := [a]) (by simpa [idsL, idsA] using h) hf
 | agg l => exact bif_congr rfl (fun _ => decT_loc h hf) fun _ => rfl
 | tup l => rfl
theorem own1_loc {a : A1} (h : Ag tb tb' 0 (ids1 a)) : own1 tb' a = own1 tb a := by
 cases a with
 | sl i p => simp only [own1]; rw [h i (by simp [ids1])]
 | c x => obtain ⟨t, x⟩ := x; cases t <;> rfl
 | _ => rfl
theorem own0_loc {a : A1} (h : Ag tb tb' 0 (ids1 a)) : own0 tb' a = own0 tb a := by
 cases a with
 | sl i p => cases p with
  | nil => simp only [own0]; rw [h i (by simp [ids1])]
  | cons => rfl
 | c x => obtain ⟨t, x⟩ := x; cases t <;> rfl
 | _ => rfl
theorem ownL_loc : ∀ {l : List A1}, Ag tb tb' 0 (idsL l) → ownL tb' l = ownL tb l := by
 intro l
 induction l with
 | nil => intro _; rfl
 | cons a l ih => intro h; simp only [ownL]; rw [own1_loc (Ag.left h), ih (Ag.right h)]
theorem idsL_append (l m : List A1) : idsL (l ++ m) = idsL l ++ idsL m := by
 induction l with
 | nil => rfl
 | cons a l ih => simp [idsL, ih]
theorem idsL_mem {l : List A1} {i : Nat} : i ∈ idsL l ↔ ∃ a ∈ l, i ∈ ids1 a := by
 induction l with
 | nil => simp [idsL]
 | cons a l ih => simp [idsL, ih]
theorem cut_sub : ∀ {l : List A1} {o n : Nat} {m : List A1}, cut l o n = some m → ∀ a ∈ m, a ∈ l := by
 intro l
 induction l with
 | nil =>
  intro o n m h
  cases o with
  | zero => cases n with
   | zero => simp only [cut, Option.some.injEq] at h; subst h; exact fun a ha => by cases ha
   | succ => cases h
  | succ => cases h
 | cons x l ih =>
  intro o n m h
  cases o with
  | zero => cases n with
   | zero => simp only [cut, Option.some.injEq] at h; subst h; exact fun a ha => by cases ha
   | succ n =>
    simp only [cut, Option.map_eq_some_iff] at h
    obtain ⟨m', h1, rfl⟩ := h
    intro a ha
    rcases List.mem_cons.1 ha with rfl | ha
    ·exact List.mem_cons_self
    ·exact List.mem_cons_of_mem _ (ih h1 a ha)
  | succ o => exact fun a ha => List.mem_cons_of_mem _ (ih h a ha)
theorem ovr_sub : ∀ {l : List A1} {o : Nat} {vs m : List A1}, ovr l o vs = some m → ∀ a ∈ m, a ∈ l ∨ a ∈ vs := by
 intro l
 induction l with
 | nil =>
  intro o vs m h
  cases o with
  | zero => cases vs with
   | nil => simp only [ovr, Option.some.injEq] at h; subst h; exact fun a ha => by cases ha
   | cons => cases h
  | succ => cases h
 | cons x l ih =>
  intro o vs m h
  cases o with
  | zero => cases vs with
   | nil => simp only [ovr, Option.some.injEq] at h; subst h; exact fun a ha => .inl ha
   | cons v vs =>
    simp only [ovr, Option.map_eq_some_iff] at h
    obtain ⟨m', h1, rfl⟩ := h
    intro a ha
    rcases List.mem_cons.1 ha with rfl | ha
    ·exact .inr List.mem_cons_self
    ·exact (ih h1 a ha).imp (List.mem_cons_of_mem _) (List.mem_cons_of_mem _)
  | succ o =>
   simp only [ovr, Option.map_eq_some_iff] at h
   obtain ⟨m', h1, rfl⟩ := h
   intro a ha
   rcases List.mem_cons.1 ha with rfl | ha
   ·exact .inl List.mem_cons_self
   ·exact (ih h1 a ha).imp_left (List.mem_cons_of_mem _)
theorem cst1_ids (v : Value) : ids1 (cst1 v) = [] := by
 unfold cst1
 split
 ·split <;> rfl
 ·rfl
 ·rename_i s
  cases Nat.ble s.size 9223372036854775807 <;> rfl
 ·rfl
 ·rfl
theorem zeros_ids {v : Value} {l : List A1} (h : zeros v = some l) : idsL l = [] := by
 unfold zeros at h
 cases hb : v.cells.toList.all Value.oneCell' with
 | false => rw [hb] at h; cases h
 | true =>
  rw [hb] at h
  simp only [cond_true, Option.some.injEq] at h
  subst h
  generalize v.cells.toList = m
  induction m with
  | nil => rfl
  | cons x m ih => simp only [List.map_cons, idsL, cst1_ids, ih, List.append_nil]
theorem rep_ids {l : List A1} (h : idsL l = []) (n : Nat) : idsL (rep l n) = [] := by
 induction n with
 | zero => rfl
 | succ n ih => simp only [rep, idsL_append, h, ih, List.append_nil]
theorem cells_ids {v : AV} {l : List A1} (h : v.cells = some l) : idsL l = idsA v := by
 cases v with
 | one a =>
  simp only [AV.cells] at h
  cases hb : one1 a with
  | false => rw [hb] at h; cases h
  | true => rw [hb] at h; simp only [cond_true, Option.some.injEq] at h; subst h; simp [idsL, idsA]
 | agg l' => simp only [AV.cells, Option.some.injEq] at h; subst h; rfl
 | tup => cases h
theorem groups_sub : ∀ {n m : Nat} {l : List A1} {gs : List (List A1)}, groups n m l = some gs → ∀ g ∈ gs, ∀ a ∈ g, a ∈ l := by
 intro n m
 induction m with
 | zero =>
  intro l gs h
  cases l with
  | nil => simp only [groups, Option.some.injEq] at h; subst h; exact fun g hg => by cases hg
  | cons => cases h
 | succ m ih =>
  intro l gs h
  simp only [groups] at h
  split at h
  ·rename_i g0 hc
   simp only [Option.map_eq_some_iff] at h
   obtain ⟨gs', h1, rfl⟩ := h
   intro g hg a ha
   rcases List.mem_cons.1 hg with rfl | hg
   ·exact cut_sub hc a ha
   ·exact List.mem_of_mem_drop (ih h1 g hg a ha)
  ·cases h
theorem decR_loc {t : Ty} : ∀ {gs : List (List A1)} {f g : List t.den → SR}, (∀ l ∈ gs, Ag tb tb' 0 (idsL l)) → (∀ x, f x = g x) → decR tb' t gs f = decR tb t gs g := by
 intro gs
 induction gs with
 | nil => intro f g _ hf; exact hf _
 | cons l gs ih =>
  intro f g h hf
  simp only [decR]
  exact decT_loc (h l List.mem_cons_self) fun x => ih (fun m hm => h m (List.mem_cons_of_mem _ hm)) fun y => hf _

theorem decTyL_loc : ∀ {ts : List Ty} {ids : List Nat} {f g : TyL ts → SR}, Ag tb tb' 1 ids → (∀ x, f x = g x) → decTyL tb' ts ids f = decTyL tb ts ids g := by
 intro ts
 induction ts with
 | nil => intro ids f g _ hf; cases ids with
  | nil => exact hf _
  | cons => rfl
 | cons t ts ih =>
  intro ids f g h hf
  cases ids with
  | nil => rfl
  | cons i ids =>
   simp only [decTyL]
   rw [h.at (i := i) List.mem_cons_self]
   cases hl : lk tb i with
   | none => rfl
   | some b => cases b with
    | box fl vs => exact decT_loc (h.box (i := i) List.mem_cons_self hl) fun x => ih (h.sub fun j hj => List.mem_cons_of_mem _ hj) fun y => hf _
    | row => rfl
theorem decCT_loc {id : Nat} {c : CT} {f g : c.den → SR} (h : Ag tb tb' 2 [id]) (hf : ∀ x, f x = g x) : decCT tb' id c f = decCT tb id c g := by
 cases c with
 | ty t =>
  simp only [decCT]
  rw [h.at (i := id) (by simp)]
  cases hl : lk tb id with
  | none => rfl
  | some b => cases b with
   | box fl vs => exact decT_loc ((h.box (i := id) (by simp) hl).zero) hf
   | row => rfl
 | fn g' caps =>
  simp only [decCT]
  rw [h.at (i := id) (by simp)]
  split
  ·rename_i fl g1 ids hl
   refine bif_congr rfl (fun _ => decTyL_loc ?_ hf) fun _ => rfl
   have := h.box (i := id) (by simp) hl
   simpa [idsL, ids1] using this
  ·rfl
theorem decCTL_loc : ∀ {cs : List CT} {ids : List Nat} {f g : CTL cs → SR}, Ag tb tb' 2 ids → (∀ x, f x = g x) → decCTL tb' cs ids f = decCTL tb cs ids g := by
 intro cs
 induction cs with
 | nil => intro ids f g _ hf; cases ids with
  | nil => exact hf _
  | cons => rfl
 | cons c cs ih =>
  intro ids f g h hf
  cases ids with
  | nil => rfl
  | cons i ids =>
   simp only [decCTL]
   exact decCT_loc (h.sub fun j hj => by simp at hj; subst hj; exact List.mem_cons_self) fun x => ih (h.sub fun j hj => List.mem_cons_of_mem _ hj) fun y => hf _
theorem decO1_loc {ty : Ty} {a : A1} {f g : Cell → SR} (h : Ag tb tb' 0 (ids1 a)) (hf : ∀ c, f c = g c) : decO1 tb' ty a f = decO1 tb ty a g := by
 have hfg : f = g := funext hf
 subst hfg
 cases a with
 | sl i p => cases p with
  | nil => simp only [decO1]; rw [h i (by simp [ids1])]
  | cons => rfl
 | c x => obtain ⟨t, x⟩ := x; cases t <;> rfl
 | _ => rfl
theorem decO_loc : ∀ {ts : List Ty} {l : List A1} {f g : List Cell → SR}, Ag tb tb' 0 (idsL l) → (∀ c, f c = g c) → decO tb' ts l f = decO tb ts l g := by
 intro ts
 induction ts with
 | nil => intro l f g h hf; cases l with
  | nil => exact hf _
  | cons => rfl
 | cons t ts ih =>
  intro l f g h hf
  cases l with
  | nil => rfl
  | cons a l =>
   simp only [decO]
   exact decO1_loc (Ag.left h) fun c => ih (Ag.right h) fun m => hf _
theorem idsO_sub {l : List A1} {i : Nat} (hi : i ∈ idsO l) : i ∈ idsL l := by
 induction l with
 | nil => cases hi
 | cons a l ih =>
  have key : i ∈ idsO l → i ∈ idsL (a :: l) := fun h => by simp [idsL, ih h]
  cases a with
  | sl j p => cases p with
   | nil =>
    rcases List.mem_cons.1 (show i ∈ j :: idsO l from hi) with rfl | hi
    ·simp [idsL, ids1]
    ·exact key hi
   | cons => exact key hi
  | _ => exact key hi
theorem decPT_loc {p : PT} {v : AV} {f g : p.den → SR} (h : Ag tb tb' 2 (idsA v)) (hf : ∀ x, f x = g x) : decPT tb' p v f = decPT tb p v g := by
 have hfg : f = g := funext hf
 cases p with
 | ro t => exact decV_loc h.zero hf
 | box c => cases v with
  | one a => cases a with
   | ref i off => cases off with
    | zero => exact decCT_loc h hf
    | succ => rfl
   | _ => rfl
  | _ => rfl
 | row e t => cases v with
  | one a => cases a with
   | sl i p => cases p with
    | nil =>
     subst hfg
     simp only [decPT]
     rw [h.at (i := i) (by simp [idsA, ids1])]
    | cons => rfl
   | _ => rfl
  | _ => rfl
 | own s => cases v with
  | agg l => exact decO_loc h.zero fun c => opt_congr rfl fun x _ => hf x
  | _ => rfl
 | fn g' caps => cases v with
  | one a => cases a with
   | fn g1 ids => exact bif_congr rfl (fun _ => decCTL_loc h hf) fun _ => rfl
   | _ => rfl
  | _ => rfl
theorem decPTL_loc : ∀ {ps : List PT} {vs : List AV} {f g : PTL ps → SR}, (∀ v ∈ vs, Ag tb tb' 2 (idsA v)) → (∀ x, f x = g x) → decPTL tb' ps vs f = decPTL tb ps vs g := by
 intro ps
 induction ps with
 | nil => intro vs f g _ hf; cases vs with
  | nil => exact hf _
  | cons => rfl
 | cons p ps ih =>
  intro vs f g h hf
  cases vs with
  | nil => rfl
  | cons v vs =>
   simp only [decPTL]
   exact decPT_loc (h v List.mem_cons_self) fun x => ih (fun u hu => h u (List.mem_cons_of_mem _ hu)) fun y => hf _

theorem idsCT_loc {id : Nat} {c : CT} (h : lk tb' id = lk tb id) : idsCT tb' id c = idsCT tb id c := by
 cases c with
 | ty => rfl
 | fn g caps => simp only [idsCT]; rw [h]
theorem idsCTL_loc : ∀ {cs : List CT} {ids : List Nat}, (∀ i ∈ ids, lk tb' i = lk tb i) → idsCTL tb' cs ids = idsCTL tb cs ids := by
 intro cs
 induction cs with
 | nil => intro ids h; cases ids <;> rfl
 | cons c cs ih =>
  intro ids h
  cases ids with
  | nil => rfl
  | cons i ids => simp only [idsCTL]; rw [idsCT_loc (h i List.mem_cons_self), ih fun j hj => h j (List.mem_cons_of_mem _ hj)]
theorem idsPT_loc {p : PT} {v : AV} (h : Ag tb tb' 0 (idsA v)) : idsPT tb' p v = idsPT tb p v := by
 cases p with
 | ro t => rfl
 | box c => cases v with
  | one a => cases a with
   | ref i off => cases off with
    | zero => exact idsCT_loc (h i (by simp [idsA, ids1]))
    | succ => rfl
   | _ => rfl
  | _ => rfl
 | row e t => cases v with
  | one a => cases a with
   | sl i p => cases p <;> rfl
   | _ => rfl
  | _ => rfl
 | own s => cases v <;> rfl
 | fn g' caps => cases v with
  | one a => cases a with
   | fn g1 ids => exact idsCTL_loc fun i hi => h i hi
   | _ => rfl
  | _ => rfl
theorem idsPTL_loc : ∀ {ps : List PT} {vs : List AV}, (∀ v ∈ vs, Ag tb tb' 0 (idsA v)) → idsPTL tb' ps vs = idsPTL tb ps vs := by
 intro ps
 induction ps with
 | nil => intro vs _; cases vs <;> rfl
 | cons p ps ih =>
  intro vs h
  cases vs with
  | nil => rfl
  | cons v vs => simp only [idsPTL]; rw [idsPT_loc (h v List.mem_cons_self), ih fun u hu => h u (List.mem_cons_of_mem _ hu)]
theorem idsCT_ag {n id : Nat} {c : CT} {m : List Nat} (h : Ag tb tb' (n + 1) [id]) (hm : idsCT tb id c = some m) : Ag tb tb' n m := by
 cases c with
 | ty => simp only [idsCT, Option.some.injEq] at hm; subst hm; exact h.down
 | fn g caps =>
  simp only [idsCT] at hm
  split at hm
  ·rename_i fl g1 ids hl
   simp only [Option.some.injEq] at hm
   subst hm
   have h2 := h.box (i := id) (by simp) hl
   have h2 : Ag tb tb' n ids := by simpa [idsL, ids1] using h2
   exact Ag.append (l := [id]) h.down h2
  ·cases hm
theorem idsCTL_ag {n : Nat} : ∀ {cs : List CT} {ids m : List Nat}, Ag tb tb' (n + 1) ids → idsCTL tb cs ids = some m → Ag tb tb' n m := by
 intro cs
 induction cs with
 | nil => intro ids m h hm; cases ids with
  | nil => simp only [idsCTL, Option.some.injEq] at hm; subst hm; exact Ag.nil
  | cons => cases hm
 | cons c cs ih =>
  intro ids m h hm
  cases ids with
  | nil => cases hm
  | cons i ids =>
   simp only [idsCTL, Option.bind_eq_some_iff, Option.map_eq_some_iff] at hm
   obtain ⟨m1, h1, m2, h2, rfl⟩ := hm
   exact Ag.append (idsCT_ag (h.sub fun j hj => by simp at hj; subst hj; exact List.mem_cons_self) h1) (ih (h.sub fun j hj => List.mem_cons_of_mem _ hj) h2)
theorem idsPT_ag {n : Nat} {p : PT} {v : AV} {m : List Nat} (h : Ag tb tb' (n + 1) (idsA v)) (hm : idsPT tb p v = some m) : Ag tb tb' n m := by
 cases p with
 | ro t => simp only [idsPT, Option.some.injEq] at hm; subst hm; exact Ag.nil
 | box c => cases v with
  | one a => cases a with
   | ref i off => cases off with
    | zero => exact idsCT_ag h hm
    | succ => cases hm
   | _ => cases hm
  | _ => cases hm
 | row e t => cases v with
  | one a => cases a with
   | sl i p => cases p with
    | nil => simp only [idsPT, Option.some.injEq] at hm; subst hm; exact h.down
    | cons => cases hm
   | _ => cases hm
  | _ => cases hm
 | own s => cases v with
  | agg l => simp only [idsPT, Option.some.injEq] at hm; subst hm; exact h.down.sub fun i hi => idsO_sub hi
  | _ => cases hm
 | fn g' caps => cases v with
  | one a => cases a with
   | fn g1 ids => exact idsCTL_ag h hm
   | _ => cases hm
  | _ => cases hm
theorem idsPTL_ag {n : Nat} : ∀ {ps : List PT} {vs : List AV} {m : List Nat}, (∀ v ∈ vs, Ag tb tb' (n + 1) (idsA v)) → idsPTL tb ps vs = some m → Ag tb tb' n m := by
 intro ps
 induction ps with
 | nil => intro vs m _ hm; cases vs with
  | nil => simp only [idsPTL, Option.some.injEq] at hm; subst hm; exact Ag.nil
  | cons => cases hm
 | cons p ps ih =>
  intro vs m h hm
  cases vs with
  | nil => cases hm
  | cons v vs =>
   simp only [idsPTL, Option.bind_eq_some_iff, Option.map_eq_some_iff] at hm
   obtain ⟨m1, h1, m2, h2, rfl⟩ := hm
   exact Ag.append (idsPT_ag (h v List.mem_cons_self) h1) (ih (fun u hu => h u (List.mem_cons_of_mem _ hu)) h2)
theorem rowsB_loc : ∀ {l : List Nat}, Ag tb tb' 0 l → rowsB tb' l = rowsB tb l := by
 intro l
 induction l with
 | nil => intro _; rfl
 | cons i l ih => intro h; simp only [rowsB]; rw [h i List.mem_cons_self, ih fun j hj => h j (List.mem_cons_of_mem _ hj)]
theorem killOf_loc : ∀ {l : List Nat}, Ag tb tb' 0 l → killOf tb' l = killOf tb l := by
 intro l
 induction l with
 | nil => intro _; rfl
 | cons i l ih => intro h; simp only [killOf]; rw [h i List.mem_cons_self, ih fun j hj => h j (List.mem_cons_of_mem _ hj)]
theorem lentT_loc {T : Tb} : ∀ {l : List Nat} {i : Nat}, Ag tb tb' 0 l → lentT tb' T l i = lentT tb T l i := by
 intro l
 induction l with
 | nil => intro i _; rfl
 | cons j l ih => intro i h; simp only [lentT]; rw [h j List.mem_cons_self, ih fun j hj => h j (List.mem_cons_of_mem _ hj)]
theorem isSome_loc {l : List Nat} (h : Ag tb tb' 0 l) : (l.all fun i => (lk tb' i).isSome) = (l.all fun i => (lk tb i).isSome) := by
 induction l with
 | nil => rfl
 | cons i l ih => simp only [List.all_cons]; rw [h i List.mem_cons_self, ih fun j hj => h j (List.mem_cons_of_mem _ hj)]
end
end Go.Proofs.YtpgglbnagphgoaaGreat
/- Every operation looks only at its operands and at the blocks that these name. No program is in sight. -/
namespace Go.Proofs.YtpgglbnagphgoaaGreat
open Go.RowKit
open SR (opt)

theorem opIds_mem {st : ASt} : ∀ {l : List Operand} {x : Operand} {v : AV}, x ∈ l → st.ev x = some v → ∀ i ∈ idsA v, i ∈ opIds st l := by
 intro l
 induction l with
 | nil => intro x v h; cases h
 | cons y l ih =>
  intro x v h hv i hi
  simp only [opIds, List.mem_append]
  rcases List.mem_cons.1 h with rfl | h
  ·left; rw [hv]; exact hi
  ·exact .inr (ih h hv i hi)
theorem opThr_mem {st : ASt} : ∀ {l : List Operand} {x : Operand} {v : AV}, x ∈ l → st.ev x = some v → ∀ i ∈ thrA v, i ∈ opThr st l := by
 intro l
 induction l with
 | nil => intro x v h; cases h
 | cons y l ih =>
  intro x v h hv i hi
  simp only [opThr, List.mem_append]
  rcases List.mem_cons.1 h with rfl | h
  ·left; rw [hv]; exact hi
  ·exact .inr (ih h hv i hi)
structure Loc (base : Nat) (st st' : ASt) (o : Oper) : Prop where
 ev : ∀ x ∈ o.op.operands.toList, st'.ev x = st.ev x
 ag : lookO o.op = true → Ag st.tb st'.tb (depO o.op) (opIds st o.op.operands.toList)
 bel : st.bel base = true
 bel' : st'.bel base = true
 box : ∀ ids, boxT ids st'.tb = boxT ids st.tb

theorem outR_self (n : Nat) : outR n n = false := by
 have h1 : Nat.blt n n = false := by
  cases h : Nat.blt n n with
  | false => rfl
  | true => have : n < n := Nat.le_of_ble_eq_true h; omega
 have h2 : Nat.ble (n + 16) n = false := by
  cases h : Nat.ble (n + 16) n with
  | false => rfl
  | true => have := Nat.le_of_ble_eq_true h; omega
 simp [outR, h1, h2]
theorem bel1_men {n : Nat} {a : A1} (h : bel1 n a = true) : men1 n a = false := by
 cases a with
 | ref i _ => simp only [bel1, men1] at *; cases hh : Nat.beq i n with
  | false => rfl
  | true => rw [(beq_iff _ _).1 hh, outR_self] at h; cases h
 | ptr i _ _ _ => simp only [bel1, men1] at *; cases hh : Nat.beq i n with
  | false => rfl
  | true => rw [(beq_iff _ _).1 hh, outR_self] at h; cases h
 | sl i _ => simp only [bel1, men1] at *; cases hh : Nat.beq i n with
  | false => rfl
  | true => rw [(beq_iff _ _).1 hh, outR_self] at h; cases h
 | sub i _ _ => simp only [bel1, men1] at *; cases hh : Nat.beq i n with
  | false => rfl
  | true => rw [(beq_iff _ _).1 hh, outR_self] at h; cases h
 | fn f caps =>
  simp only [bel1, men1] at *
  cases hh : mem? caps n with
  | false => rfl
  | true =>
   have := (List.all_eq_true.1 h) n ((mem?_iff _ _).1 hh)
   rw [outR_self] at this
   cases this
 | _ => rfl
theorem belL_men {n : Nat} {l : List A1} (h : l.all (bel1 n) = true) : menL n l = false := by
 induction l with
 | nil => rfl
 | cons a l ih =>
  simp only [List.all_cons, Bool.and_eq_true] at h
  simp only [menL, bel1_men h.1, ih h.2, Bool.or_self]
theorem belT_men {n : Nat} {l : List (Bool × List A1)} (h : (l.all fun p => p.2.all (bel1 n)) = true) : menT n l = false := by
 induction l with
 | nil => rfl
 | cons a l ih =>
  simp only [List.all_cons, Bool.and_eq_true] at h
  simp only [menT, belL_men h.1, ih h.2, Bool.or_self]
theorem belV_men {n : Nat} {v : AV} (h : belV n v = true) : v.men n = false := by
 cases v with
 | one a => exact bel1_men h
 | agg l => exact belL_men h
 | tup l => exact belT_men h
theorem belF_men {n : Nat} {fr : Fr} (h : belF n fr = true) : menF n fr = false := by
 induction fr with
 | nil => rfl
 | cons p fr ih =>
  obtain ⟨i, v⟩ := p
  simp only [belF, Bool.and_eq_true] at h
  simp only [menF, belV_men h.1, ih h.2, Bool.or_self]
theorem belB_men {n : Nat} {tb : Tb} (h : belB n tb = true) : menB n tb = false := by
 induction tb with
 | nil => rfl
 | cons p tb ih =>
  obtain ⟨i, b⟩ := p
  simp only [belB, Bool.and_eq_true] at h
  obtain ⟨⟨h1, h2⟩, h3⟩ := h
  have e1 : Nat.beq i n = false := by
   cases hh : Nat.beq i n with
   | false => rfl
   | true => rw [(beq_iff _ _).1 hh, outR_self] at h1; cases h1
  cases b with
  | box f l => simp only [menB, e1, belL_men h2, ih h3, Bool.or_self]
  | row e t l d => simp only [menB, e1, ih h3, Bool.or_self]
theorem bel_fresh {st : ASt} {n : Nat} (h : st.bel n = true) : st.fresh n = true := by
 simp only [ASt.bel, Bool.and_eq_true] at h
 simp [ASt.fresh, h.1.1, belF_men h.1.2, belB_men h.2]

section
variable {P : Program} {Γ : Cfg} {base : Nat} {st st' : ASt} {o : Oper}
theorem Loc.ev1 (h : Loc base st st' o) {x : Operand} (hx : x ∈ o.op.operands.toList) : st'.ev1 x = st.ev1 x := by
 unfold ASt.ev1
 rw [h.ev x hx]
theorem ev1_ev {x : Operand} {a : A1} (h : st.ev1 x = some a) : st.ev x = some (.one a) := by
 unfold ASt.ev1 at h
 split at h
 ·rename_i y hy; simp only [Option.some.injEq] at h; subst h; exact hy
 ·cases h
theorem Loc.ag1 (h : Loc base st st' o) (hl : lookO o.op = true) {x : Operand} (hx : x ∈ o.op.operands.toList) {a : A1} (ha : st.ev1 x = some a) : Ag st.tb st'.tb (depO o.op) (ids1 a) :=
 (h.ag hl).sub (opIds_mem hx (ev1_ev ha))
theorem Loc.agV (h : Loc base st st' o) (hl : lookO o.op = true) {x : Operand} (hx : x ∈ o.op.operands.toList) {v : AV} (hv : st.ev x = some v) : Ag st.tb st'.tb (depO o.op) (idsA v) :=
 (h.ag hl).sub (opIds_mem hx hv)
theorem Loc.fresh (h : Loc base st st' o) : st'.fresh base = st.fresh base := by rw [bel_fresh h.bel, bel_fresh h.bel']
theorem evL_loc : ∀ {l : List Operand}, (∀ x ∈ l, st'.ev x = st.ev x) → evL st' l = evL st l := by
 intro l
 induction l with
 | nil => intro _; rfl
 | cons x l ih => intro h; simp only [evL]; rw [h x List.mem_cons_self, ih fun y hy => h y (List.mem_cons_of_mem _ hy)]
theorem evL_mem : ∀ {l : List Operand} {vs : List AV}, evL st l = some vs → ∀ v ∈ vs, ∃ x ∈ l, st.ev x = some v := by
 intro l
 induction l with
 | nil => intro vs h; simp only [evL, Option.some.injEq] at h; subst h; exact fun v hv => by cases hv
 | cons x l ih =>
  intro vs h
  simp only [evL] at h
  split at h
  ·rename_i v m h1 h2
   simp only [Option.some.injEq] at h
   subst h
   intro u hu
   rcases List.mem_cons.1 hu with rfl | hu
   ·exact ⟨x, List.mem_cons_self, h1⟩
   ·obtain ⟨y, h3, h4⟩ := ih h2 u hu
    exact ⟨y, List.mem_cons_of_mem _ h3, h4⟩
  ·cases h
theorem fillA_loc {place : Nat → Option (Nat × Nat)} : ∀ {ps : List (Nat × Operand)} {cells : List A1}, (∀ x ∈ ps.map (·.2), st'.ev x = st.ev x) → fillA place st' cells ps = fillA place st cells ps := by
 intro ps
 induction ps with
 | nil => intro cells _; rfl
 | cons p ps ih =>
  obtain ⟨i, x⟩ := p
  intro cells h
  have e : ∀ cs, fillA place st' cs ps = fillA place st cs ps := fun cs => ih fun y hy => h y (List.mem_cons_of_mem _ hy)
  simp only [fillA]
  rw [h x List.mem_cons_self]
  simp only [e]
theorem fillA_ids {place : Nat → Option (Nat × Nat)} : ∀ {ps : List (Nat × Operand)} {cells l : List A1}, fillA place st cells ps = some l → ∀ i ∈ idsL l, i ∈ idsL cells ∨ i ∈ opIds st (ps.map (·.2)) := by
 intro ps
 induction ps with
 | nil => intro cells l h; simp only [fillA, Option.some.injEq] at h; subst h; exact fun i hi => .inl hi
 | cons p ps ih =>
  obtain ⟨j, x⟩ := p
  intro cells l h i hi
  simp only [fillA] at h
  split at h
  ·rename_i off size vs h1 h2
   cases hb : Nat.beq vs.length size with
   | false => rw [hb] at h; cases h
   | true =>
    rw [hb] at h
    simp only [cond_true] at h
    split at h
    ·rename_i cs hc
     simp only [Option.bind_eq_some_iff] at h2
     obtain ⟨v, h3, h4⟩ := h2
     rcases ih h i hi with h5 | h5
     ·obtain ⟨a, h6, h7⟩ := idsL_mem.1 h5
      rcases ovr_sub hc a h6 with h8 | h8
      ·exact .inl (idsL_mem.2 ⟨a, h8, h7⟩)
      ·refine .inr ?_
       simp only [List.map_cons, opIds, List.mem_append]
       left
       rw [h3]
       simp only
       rw [← cells_ids h4]
       exact idsL_mem.2 ⟨a, h8, h7⟩
     ·refine .inr ?_
      simp only [List.map_cons, opIds, List.mem_append]
      exact .inr h5
    ·cases h
  ·cases h

theorem callSR_loc {f : FuncId} {args : List AV} (hb : st.bel base = true) (hb' : st'.bel base = true) (hx : ∀ ids, boxT ids st'.tb = boxT ids st.tb) (h : ∀ v ∈ args, Ag st.tb st'.tb 2 (idsA v)) :
  callSR Γ base st' f args = callSR Γ base st f args := by
 unfold callSR
 cases Γ.con f with
 | none => rfl
 | some C =>
  simp only
  refine bif_congr (by rw [hb, hb']) (fun _ => ?_) fun _ => rfl
  refine opt_congr (idsPTL_loc fun v hv => (h v hv).zero) fun bs hbs => ?_
  have hag : Ag st.tb st'.tb 1 bs := idsPTL_ag h hbs
  rw [rowsB_loc hag.zero, killOf_loc hag.zero, isSome_loc hag.zero, hx]
  refine bif_congr rfl (fun _ => ?_) fun _ => rfl
  refine decPTL_loc h fun x => ?_
  congr 1
  funext e
  congr 1
  funext tb1
  rw [lentT_loc hag.zero]

theorem step_loc (h : Loc base st st' o) : step P Γ base o st' = step P Γ base o st := by
 have hops := h.ev
 cases ho : o.op with
 | move x =>
  simp only [step, ho]
  rw [h.ev x (by simp [ho, Op.operands])]
 | assign x =>
  simp only [step, ho]
  rw [h.ev x (by simp [ho, Op.operands])]
 | pick c x y =>
  simp only [step, ho]
  rw [h.ev1 (x := c) (by simp [ho, Op.operands]), h.ev x (by simp [ho, Op.operands]), h.ev y (by simp [ho, Op.operands])]
 | alloc e =>
  simp only [step, ho]
  rw [h.fresh]
 | box e x =>
  simp only [step, ho]
  rw [h.fresh, h.ev x (by simp [ho, Op.operands])]
 | build t parts =>
  have e : ∀ place cells, fillA place st' cells parts.toList = fillA place st cells parts.toList := fun place cells => fillA_loc fun x hx => h.ev x (by simpa [ho, Op.operands] using hx)
  simp only [step, ho, e]
 | buildSlice t n parts =>
  have e : ∀ place cells, fillA place st' cells parts.toList = fillA place st cells parts.toList := fun place cells => fillA_loc fun x hx => h.ev x (by simpa [ho, Op.operands] using hx)
  simp only [step, ho, e]
  refine bif_congr h.fresh (fun _ => ?_) fun _ => rfl
  refine opt_congr rfl fun et _ => opt_congr rfl fun ty _ => opt_congr rfl fun z hz => opt_congr rfl fun size _ => bif_congr rfl (fun _ => ?_) fun _ => rfl
  refine opt_congr rfl fun l hl => opt_congr rfl fun gs hgs => ?_
  have hl2 : Ag st.tb st'.tb (depO o.op) (idsL l) := (h.ag (by rw [ho]; rfl)).sub fun i hi => by
   rcases fillA_ids hl i hi with h1 | h1
   ·rw [rep_ids ((Option.bind_eq_some_iff.1 hz).elim fun v hv => zeros_ids hv.2) n] at h1
    cases h1
   ·simpa [ho, Op.operands] using h1
  refine decR_loc (fun g hg => hl2.zero.sub fun i hi => ?_) fun xs => ?_
  ·obtain ⟨a, h1, h2⟩ := idsL_mem.1 hi
   exact idsL_mem.2 ⟨a, groups_sub hgs g hg a h1, h2⟩
  ·rw [ownL_loc hl2.zero]
 | load t x =>
  simp only [step, ho]
  have hx : x ∈ o.op.operands.toList := by simp [ho, Op.operands]
  have e1 : movLd P base st' t x = movLd P base st t x := by
   unfold movLd
   rw [h.ev1 hx]
   cases ha : st.ev1 x with
   | none => rfl
   | some a =>
    have hag := (h.ag1 (by rw [ho]; rfl) hx ha).zero
    cases a with
    | ptr i p k off =>
     cases p with
     | nil =>
      simp only
      rw [hag i (by simp [ids1])]
      have e2 : ∀ (e : Option TypeId) (s : SN) (l : List (s.den × Bool)), movS P base st' t i k off e s l = movS P base st t i k off e s l := fun e s l => by
       unfold movS
       rw [h.bel, h.bel', h.box]
      simp only [e2]
     | cons => rfl
    | _ => rfl
  have e3 : loadSR P st' t x = loadSR P st t x := by
   unfold loadSR
   refine opt_congr rfl fun p _ => opt_congr (h.ev1 hx) fun a ha => ?_
   have hag := (h.ag1 (by rw [ho]; rfl) hx ha).zero
   cases a with
   | ref i off => simp only; rw [hag i (by simp [ids1])]
   | ptr i p k off => simp only; rw [hag i (by simp [ids1])]
   | _ => rfl
  rw [e1, e3]
 | store t x v =>
  simp only [step, ho]
  have hx : x ∈ o.op.operands.toList := by simp [ho, Op.operands]
  have hv : v ∈ o.op.operands.toList := by simp [ho, Op.operands]
  refine opt_congr rfl fun ⟨n0, _⟩ _ => opt_congr (h.ev1 hx) fun a ha => opt_congr (by rw [h.ev v hv]) fun vs hvs => ?_
  have hag := (h.ag1 (by rw [ho]; rfl) hx ha).zero
  have hgv : Ag st.tb st'.tb 0 (idsL vs) := by
   obtain ⟨u, h1, h2⟩ := Option.bind_eq_some_iff.1 hvs
   rw [cells_ids h2]
   exact (h.agV (by rw [ho]; rfl) hv h1).zero
  refine bif_congr rfl (fun _ => ?_) fun _ => rfl
  cases a with
  | ref i off => simp only; rw [hag i (by simp [ids1])]
  | ptr i p k off => cases p with
   | cons q p =>
    simp only
    rw [hag i (by simp [ids1])]
    have hg : (fun (ty' : Ty) (l' : List ty'.den) (f : List ty'.den → SR) => opt (cut ty'.sig off n0) fun sg => decL st'.tb sg vs fun cs => elemSR k off cs ty' l' f) = fun (ty' : Ty) (l' : List ty'.den) (f : List ty'.den → SR) => opt (cut ty'.sig off n0) fun sg => decL st.tb sg vs fun cs => elemSR k off cs ty' l' f :=
     funext fun ty' => funext fun l' => funext fun f => opt_congr rfl fun sg _ => decL_loc hgv fun c => rfl
    rw [hg]
   | nil =>
    simp only
    rw [hag i (by simp [ids1])]
    cases lk st.tb i with
    | none => rfl
    | some b => cases b with
     | box => rfl
     | row e ty l deep =>
      simp only
      rw [ownL_loc hgv, h.box]
      refine bif_congr rfl (fun _ => ?_) fun _ => rfl
      exact opt_congr rfl fun sg _ => decL_loc hgv fun c => rfl
  | _ => rfl
 | nilCheck x =>
  simp only [step, ho]
  have hx : x ∈ o.op.operands.toList := by simp [ho, Op.operands]
  refine opt_congr (h.ev1 hx) fun a ha => ?_
  have hag := (h.ag1 (by rw [ho]; rfl) hx ha).zero
  cases a with
  | ref i off => simp only; rw [hag i (by simp [ids1])]
  | _ => rfl
 | binOp op t x y t' =>
  simp only [step, ho]
  have hx : x ∈ o.op.operands.toList := by simp [ho, Op.operands]
  refine opt_congr (h.ev x hx) fun u hu => opt_congr (h.ev y (by simp [ho, Op.operands])) fun v _ => ?_
  have hag := (h.agV (by rw [ho]; rfl) hx hu).zero
  unfold binA
  split <;> first
   | rfl
   | (rw [hag _ (by simp [idsA, ids1])])
 | unOp op t x =>
  simp only [step, ho]
  rw [h.ev1 (x := x) (by simp [ho, Op.operands])]
 | convert s d x =>
  simp only [step, ho]
  have hx : x ∈ o.op.operands.toList := by simp [ho, Op.operands]
  refine opt_congr (h.ev1 hx) fun a ha => ?_
  have hag := (h.ag1 (by rw [ho]; rfl) hx ha).zero
  split
  ·rfl
  ·split
   ·exact listOf_loc hag fun t l => rfl
   ·rfl
  ·rfl
 | makeFunc fn first captured => cases fn with
  | func f =>
   simp only [step, ho]
   rw [evL_loc (l := captured.toList) fun x hx => h.ev x (by simp [ho, Op.operands]; exact .inr (by simpa using hx))]
  | _ => simp only [step, ho]
 | makeSlice t n c =>
  simp only [step, ho]
  refine bif_congr h.fresh (fun _ => ?_) fun _ => rfl
  refine opt_congr rfl fun et _ => opt_congr rfl fun ty _ => opt_congr rfl fun z hz => opt_congr rfl fun size _ => opt_congr rfl fun bytes _ => opt_congr (h.ev1 (by simp [ho, Op.operands])) fun a _ => opt_congr (h.ev1 (by simp [ho, Op.operands])) fun b _ => bif_congr rfl (fun _ => ?_) fun _ => rfl
  have hzn : idsL z = [] := (Option.bind_eq_some_iff.1 hz).elim fun v hv => zeros_ids hv.2
  split
  ·simp only [makeS]
   rw [decT_loc (tb := st.tb) (tb' := st'.tb) (t := ty) (l := z) (by rw [hzn]; exact Ag.nil) fun x => rfl]
  ·rfl
 | slice t x lo hi m => cases m with
  | none =>
   simp only [step, ho]
   have hx : x ∈ o.op.operands.toList := by simp [ho, Op.operands]
   have hlo : evO st' lo = evO st lo := by
    cases lo with
    | none => rfl
    | some y => simp only [evO]; rw [h.ev1 (x := y) (by simp [ho, Op.operands])]
   have hhi : evO st' hi = evO st hi := by
    cases hi with
    | none => rfl
    | some y => simp only [evO]; rw [h.ev1 (x := y) (by simp [ho, Op.operands])]
   refine opt_congr (h.ev1 hx) fun a ha => opt_congr hlo fun lo' _ => opt_congr hhi fun hi' _ => ?_
   have hag := (h.ag1 (by rw [ho]; rfl) hx ha).zero
   split <;> first
    | rfl
    | (rw [hag _ (by simp [ids1])])
  | some m => simp only [step, ho]
 | fieldAddr s x f =>
  simp only [step, ho]
  have hx : x ∈ o.op.operands.toList := by simp [ho, Op.operands]
  refine opt_congr rfl fun p _ => opt_congr rfl fun n _ => bif_congr rfl (fun _ => rfl) fun _ => opt_congr (h.ev1 hx) fun a ha => ?_
  have hag := (h.ag1 (by rw [ho]; rfl) hx ha).zero
  cases a with
  | ref i off => simp only; rw [hag i (by simp [ids1])]
  | ptr i p k off => simp only; rw [hag i (by simp [ids1])]
  | _ => rfl
 | field s x f =>
  simp only [step, ho]
  rw [h.ev x (by simp [ho, Op.operands])]
 | indexAddr t x i =>
  simp only [step, ho]
  have hx : x ∈ o.op.operands.toList := by simp [ho, Op.operands]
  refine opt_congr rfl fun p _ => opt_congr rfl fun n _ => opt_congr (h.ev1 hx) fun a ha => opt_congr (h.ev1 (by simp [ho, Op.operands])) fun b _ => ?_
  have hag := (h.ag1 (by rw [ho]; rfl) hx ha).zero
  split
  ·cases a with
   | sl i p => simp only; rw [hag i (by simp [ids1])]
   | c y => obtain ⟨ty, y⟩ := y; cases ty <;> rfl
   | _ => rfl
  ·rfl
 | index t x i =>
  simp only [step, ho]
  rw [h.ev1 (x := x) (by simp [ho, Op.operands]), h.ev1 (x := i) (by simp [ho, Op.operands])]
 | extract x i =>
  simp only [step, ho]
  rw [h.ev x (by simp [ho, Op.operands])]
 | call c =>
  simp only [step, ho]
  have hargs : ∀ x ∈ c.args.toList, x ∈ o.op.operands.toList := fun x hx => by simp [ho, Op.operands, Call.operands]; exact .inr (by simpa using hx)
  refine opt_congr (evL_loc fun x hx => h.ev x (hargs x hx)) fun args hevl => ?_
  have ha : ∀ v ∈ args, Ag st.tb st'.tb 2 (idsA v) := fun v hv => by
   obtain ⟨x, h1, h2⟩ := evL_mem hevl v hv
   have := h.agV (by rw [ho]; rfl) (hargs x h1) h2
   rw [ho] at this
   exact this
  cases hc : c.callee with
  | invoke => rfl
  | value x =>
   have hx : x ∈ o.op.operands.toList := by simp [ho, Op.operands, Call.operands, hc]
   have key : (match st'.ev1 x with
     | some (.fn f caps) => callSR Γ base st' f (args ++ caps.map fun i => AV.one (.ref i 0))
     | _ => SR.bad) = (match st.ev1 x with
     | some (.fn f caps) => callSR Γ base st f (args ++ caps.map fun i => AV.one (.ref i 0))
     | _ => SR.bad) := by
    rw [h.ev1 hx]
    cases hv : st.ev1 x with
    | none => rfl
    | some a => cases a with
     | fn f caps =>
      refine callSR_loc h.bel h.bel' h.box fun v hv' => ?_
      rcases List.mem_append.1 hv' with h1 | h1
      ·exact ha v h1
      ·obtain ⟨i, h2, rfl⟩ := List.mem_map.1 h1
       have h3 := h.ag1 (by rw [ho]; rfl) hx hv
       rw [ho] at h3
       exact Ag.sub (n := 2) h3 fun j hj => by simp [idsA, ids1] at hj; subst hj; exact h2
     | _ => rfl
   cases x with
   | func f => exact callSR_loc h.bel h.bel' h.box ha
   | _ => exact key
  | builtin b =>
   cases b with
   | len =>
    simp only
    split
    ·rename_i t a h1
     have hz := (ha (.one a) (by simp)).zero
     split
     ·rfl
     ·rfl
     ·exact listOf_loc hz fun t l => rfl
     ·rfl
    ·rfl
   | append =>
    simp only
    split <;> try rfl
    rename_i t t' s x h1
    refine bif_congr (by rw [h.fresh]) (fun _ => ?_) fun _ => rfl
    have hs : Ag st.tb st'.tb 0 (ids1 s) := (ha (.one s) (by simp)).zero
    have hx : Ag st.tb st'.tb 0 (ids1 x) := (ha (.one x) (by simp)).zero
    unfold appendSR
    cases sliceOf P t with
    | none => rfl
    | some e =>
     simp only
     split <;> try rfl
     refine bif_congr rfl (fun _ => ?_) fun _ => rfl
     refine listOf_loc hx fun t2 l2 => ?_
     rw [own0_loc hx]
     cases s with
     | sl i p => cases p with
      | nil => simp only; rw [hs i (by simp [ids1])]
      | cons => rfl
     | _ => rfl
   | copy =>
    simp only
    split <;> try rfl
    rename_i t t' a x h1
    refine bif_congr rfl (fun _ => ?_) fun _ => rfl
    have hs : Ag st.tb st'.tb 0 (ids1 a) := (ha (.one a) (by simp)).zero
    have hx : Ag st.tb st'.tb 0 (ids1 x) := (ha (.one x) (by simp)).zero
    have key : ∀ id lo n, id ∈ ids1 a → copySR st' id lo n x = copySR st id lo n x := fun id lo n hid => by
     unfold copySR
     rw [hs id hid]
     split <;> try rfl
     exact bif_congr rfl (fun _ => listOf_loc hx fun t l => rfl) fun _ => rfl
    cases a with
    | sl i p => cases p with
     | nil => exact key _ _ _ (by simp [ids1])
     | cons => rfl
    | sub i lo n => exact key _ _ _ (by simp [ids1])
    | _ => rfl
   | _ => rfl
 | _ => simp only [step, ho]
end
end Go.Proofs.YtpgglbnagphgoaaGreat
/- Operations whose way is one. No program is in sight. -/
namespace Go.Proofs.YtpgglbnagphgoaaGreat
open Go.RowKit
open SR (opt)

def SR.Det (r : SR) : Prop := ∀ e e', r.outs e → r.outs e' → e = e'
namespace Det
theorem ret (e : Eff) : (SR.ret e).Det := fun a b ha hb => by
 have ha : a = e := ha
 have hb : b = e := hb
 rw [ha, hb]
theorem bad : SR.bad.Det := fun _ _ h => h.elim
theorem req {p : Prop} {r : SR} (h : r.Det) : (SR.req p r).Det := fun a b ha hb => h a b ha hb
theorem giv {p : Prop} {r : SR} (h : r.Det) : (SR.giv p r).Det := fun a b ha hb => h a b ha.2 hb.2
theorem fork {b : Bool} {r s : SR} (h : r.Det) (h' : s.Det) : (SR.fork b r s).Det := fun x y hx hy => by
 rcases hx with ⟨h1, hx⟩ | ⟨h1, hx⟩ <;> rcases hy with ⟨h2, hy⟩ | ⟨h2, hy⟩
 ·exact h x y hx hy
 ·rw [h1] at h2; cases h2
 ·rw [h1] at h2; cases h2
 ·exact h' x y hx hy
theorem get {α : Type} {l : List α} {k : Nat} {f : α → SR} (h : ∀ x, (f x).Det) : (SR.all α fun x => .giv (l[k]? = some x) (f x)).Det := fun a b ⟨x, hx, ha⟩ ⟨y, hy, hb⟩ => by
 rw [hx] at hy
 injection hy with hy
 subst hy
 exact h x a b ha hb
theorem el {t : Ty} {l : List t.den} {k : Nat} {f : List Cell → SR} (h : ∀ c, (f c).Det) : (elSR t l k f).Det := by
 cases t
 case hol s =>
  refine req fun a b ⟨x, hx, ha⟩ ⟨y, hy, hb⟩ => ?_
  rw [hx] at hy
  injection hy with hy
  injection hy with hy
  subst hy
  exact h _ a b ha hb
 all_goals exact get fun x => h _
theorem el0 {t : Ty} {l : List t.den} {k : Nat} {f : List Cell → SR} (h : ∀ c, (f c).Det) : (elSR0 t l k f).Det := by
 cases t
 case hol s =>
  refine req fun a b ⟨x, hx, ha⟩ ⟨y, hy, hb⟩ => ?_
  rw [hx] at hy
  injection hy with hy
  injection hy with hy
  subst hy
  exact h _ a b ha hb
 all_goals exact get fun x => h _
theorem ldEl' {t : Ty} {l : List t.den} {k : Nat} {f : List Cell → SR} (h : ∀ c, (f c).Det) : (ldEl t l k f).Det := by
 cases t
 case hol s =>
  refine req fun a b ⟨x, hx, _, ha⟩ ⟨y, hy, _, hb⟩ => ?_
  rw [hx] at hy
  injection hy with hy
  injection hy with hy
  subst hy
  exact h _ a b ha hb
 all_goals exact get fun x => giv (h _)
theorem opt' {α : Type} {o : Option α} {f : α → SR} (h : ∀ x, o = some x → (f x).Det) : (opt o f).Det := by
 cases o with
 | none => exact bad
 | some x => exact h x rfl
theorem bif' {b : Bool} {r s : SR} (h : b = true → r.Det) (h' : b = false → s.Det) : (bif b then r else s).Det := by
 cases b with
 | true => exact h rfl
 | false => exact h' rfl
theorem ite' {p : Prop} [Decidable p] {r s : SR} (h : p → r.Det) (h' : ¬ p → s.Det) : (if p then r else s).Det := by
 split
 ·exact h ‹_›
 ·exact h' ‹_›
theorem onE' {r : SR} {g : Eff → SR} (h : r.Det) (hg : ∀ e, (g e).Det) : (r.onE g).Det := fun a b ha hb => by
 obtain ⟨e, h1, h2⟩ := (onE_outs _ _ _).1 ha
 obtain ⟨e', h3, h4⟩ := (onE_outs _ _ _).1 hb
 have := h e e' h1 h3
 subst this
 exact hg e a b h2 h4
theorem vc' {t : Ty} {x : t.den} : (vc t x).Det := ret _
theorem path {f : (t : Ty) → List t.den → SR} (hf : ∀ t l, (f t l).Det) : ∀ {p : List (Nat × Nat)} {t : Ty} {l : List t.den}, (pathSR t l p f).Det := by
 intro p
 induction p with
 | nil => intro t l; exact hf t l
 | cons q p ih =>
  obtain ⟨k, off⟩ := q
  intro t l
  refine el fun cs => ?_
  split
  ·exact ih
  ·exact bad
theorem upd {g : (t : Ty) → List t.den → (List t.den → SR) → SR} (hg : ∀ t l f, (∀ x, (f x).Det) → (g t l f).Det) : ∀ {p : List (Nat × Nat)} {t : Ty} {l : List t.den} {f : List t.den → SR}, (∀ x, (f x).Det) → (updSR t l p g f).Det := by
 intro p
 induction p with
 | nil => intro t l f hf; exact hg t l f hf
 | cons q p ih =>
  obtain ⟨k, off⟩ := q
  intro t l f hf
  refine el fun cs0 => ?_
  split
  ·exact ih fun y => opt' fun _ _ => opt' fun _ _ => hf _
  ·exact bad
theorem movLd_det {P : Program} {base : Nat} {st : ASt} {t : TypeId} {a : Operand} {r : SR} (h : movLd P base st t a = some r) : r.Det := by
 unfold movLd at h
 split at h
 ·split at h
  ·split at h
   case h_2 => cases h
   injection h with h
   subst h
   unfold movS
   refine bif' (fun _ => opt' fun q _ => ?_) fun _ => bad
   refine req fun x y ⟨u, hu, hx⟩ ⟨v, hv, hy⟩ => ?_
   rw [hu] at hv
   injection hv with hv
   injection hv with hv
   subst hv
   exact giv (opt' fun cs _ => bif' (fun _ => opt' fun _ _ => ret _) fun _ => bad) x y hx hy
  ·cases h
 ·cases h
theorem listOf' {tb : Tb} {a : A1} {f : (t : Ty) → List t.den → SR} (hf : ∀ t l, (f t l).Det) : (listOf tb a f).Det := by
 unfold listOf
 split
 ·exact hf _ _
 ·split
  ·exact path hf
  ·exact bad
 ·split
  ·exact hf _ _
  ·exact bad
 ·exact bad
theorem decC' {tb : Tb} {ty : Ty} {a : A1} {f : Cell → SR} (hf : ∀ c, (f c).Det) : (decC tb ty a f).Det := by
 unfold decC
 split
 ·exact ite' (fun _ => hf _) fun _ => bad
 ·exact ite' (fun _ => hf _) fun _ => bad
 ·split
  ·exact hf _
  ·exact bad
 ·split
  ·exact path fun t l => ite' (fun _ => hf _) fun _ => bad
  ·exact bad
 ·split
  ·exact ite' (fun _ => hf _) fun _ => bad
  ·exact bad
 ·exact bad
theorem decL' {tb : Tb} : ∀ {ts : List Ty} {l : List A1} {f : List Cell → SR}, (∀ c, (f c).Det) → (decL tb ts l f).Det := by
 intro ts
 induction ts with
 | nil => intro l f hf; cases l with
  | nil => exact hf _
  | cons => exact bad
 | cons t ts ih =>
  intro l f hf
  cases l with
  | nil => exact bad
  | cons a l => exact decC' fun c => ih fun m => hf _
theorem decT' {tb : Tb} {t : Ty} {l : List A1} {f : t.den → SR} (hf : ∀ x, (f x).Det) : (decT tb t l f).Det := decL' fun c => opt' fun x _ => hf x
theorem decV' {tb : Tb} {t : Ty} {v : AV} {f : t.den → SR} (hf : ∀ x, (f x).Det) : (decV tb t v f).Det := by
 cases v with
 | one a => exact bif' (fun _ => bad) fun _ => decT' hf
 | agg l => exact bif' (fun _ => decT' hf) fun _ => bad
 | tup l => exact bad
theorem decR' {tb : Tb} {t : Ty} : ∀ {gs : List (List A1)} {f : List t.den → SR}, (∀ x, (f x).Det) → (decR tb t gs f).Det := by
 intro gs
 induction gs with
 | nil => intro f hf; exact hf _
 | cons l gs ih => intro f hf; exact decT' fun x => ih fun y => hf _
theorem decTyL' {tb : Tb} : ∀ {ts : List Ty} {ids : List Nat} {f : TyL ts → SR}, (∀ x, (f x).Det) → (decTyL tb ts ids f).Det := by
 intro ts
 induction ts with
 | nil => intro ids f hf; cases ids with
  | nil => exact hf _
  | cons => exact bad
 | cons t ts ih =>
  intro ids f hf
  cases ids with
  | nil => exact bad
  | cons i ids =>
   simp only [decTyL]
   split
   ·exact decT' fun x => ih fun y => hf _
   ·exact bad
theorem decCT' {tb : Tb} {id : Nat} {c : CT} {f : c.den → SR} (hf : ∀ x, (f x).Det) : (decCT tb id c f).Det := by
 cases c with
 | ty t =>
  simp only [decCT]
  split
  ·exact decT' hf
  ·exact bad
 | fn g caps =>
  simp only [decCT]
  split
  ·exact bif' (fun _ => decTyL' hf) fun _ => bad
  ·exact bad
theorem decCTL' {tb : Tb} : ∀ {cs : List CT} {ids : List Nat} {f : CTL cs → SR}, (∀ x, (f x).Det) → (decCTL tb cs ids f).Det := by
 intro cs
 induction cs with
 | nil => intro ids f hf; cases ids with
  | nil => exact hf _
  | cons => exact bad
 | cons c cs ih =>
  intro ids f hf
  cases ids with
  | nil => exact bad
  | cons i ids => exact decCT' fun x => ih fun y => hf _
theorem decO1' {tb : Tb} {ty : Ty} {a : A1} {f : Cell → SR} (hf : ∀ c, (f c).Det) : (decO1 tb ty a f).Det := by
 unfold decO1
 split
 ·exact bad
 ·exact ite' (fun _ => hf _) fun _ => bad
 ·exact ite' (fun _ => hf _) fun _ => bad
 ·split
  ·exact ite' (fun _ => hf _) fun _ => bad
  ·exact bad
 ·exact bad
theorem decO' {tb : Tb} : ∀ {ts : List Ty} {l : List A1} {f : List Cell → SR}, (∀ c, (f c).Det) → (decO tb ts l f).Det := by
 intro ts
 induction ts with
 | nil => intro l f hf; cases l with
  | nil => exact hf _
  | cons => exact bad
 | cons t ts ih =>
  intro l f hf
  cases l with
  | nil => exact bad
  | cons a l => exact decO1' fun c => ih fun m => hf _
theorem decPT' {tb : Tb} {p : PT} {v : AV} {f : p.den → SR} (hf : ∀ x, (f x).Det) : (decPT tb p v f).Det := by
 cases p with
 | ro t => exact decV' hf
 | box c => cases v with
  | one a => cases a with
   | ref i off => cases off with
    | zero => exact decCT' hf
    | succ => exact bad
   | _ => exact bad
  | _ => exact bad
 | row e t => cases v with
  | one a => cases a with
   | sl i p => cases p with
    | nil =>
     simp only [decPT]
     split
     ·split
      ·exact bif' (fun _ => hf _) fun _ => bad
      ·exact bad
     ·exact bad
    | cons => exact bad
   | _ => exact bad
  | _ => exact bad
 | own s => cases v with
  | agg l => exact decO' fun c => opt' fun _ _ => hf _
  | _ => exact bad
 | fn g' caps => cases v with
  | one a => cases a with
   | fn g1 ids => exact bif' (fun _ => decCTL' hf) fun _ => bad
   | _ => exact bad
  | _ => exact bad
theorem decPTL' {tb : Tb} : ∀ {ps : List PT} {vs : List AV} {f : PTL ps → SR}, (∀ x, (f x).Det) → (decPTL tb ps vs f).Det := by
 intro ps
 induction ps with
 | nil => intro vs f hf; cases vs with
  | nil => exact hf _
  | cons => exact bad
 | cons p ps ih =>
  intro vs f hf
  cases vs with
  | nil => exact bad
  | cons v vs => exact decPT' fun x => ih fun y => hf _
theorem decB' {p : Prop} [Decidable p] : (decB p).Det := ret _
theorem binI' {wr : Bool} {op : BinOp} {k : IntKind} {x y : Int} : (binI wr op k x y).Det := by
 unfold binI fitI
 split <;> first
  | exact bif' (fun _ => ret _) fun _ => req (ret _)
  | exact req (ret _)
  | exact giv (ret _)
  | exact ret _
  | exact bad
theorem binS' {op : BinOp} {x y : ByteArray} : (binS op x y).Det := by
 unfold binS
 split <;> first
  | exact req (ret _)
  | exact ret _
  | exact bad
theorem boundS' {n : Nat} {lo hi : Option A1} {f : Nat → Nat → SR} (hf : ∀ a b, (f a b).Det) : (boundS n lo hi f).Det := by
 unfold boundS
 split <;> first
  | exact hf _ _
  | exact req (hf _ _)
  | exact bad
theorem fillDet {b : Bool} {r : SR} (h : r.Det) : (fk b r).Det := by
 unfold fk
 refine bif' (fun _ => onE' h fun e => ?_) fun _ => h
 split
 ·exact fork (ret _) (ret _)
 ·exact ret _
end Det
open Det

section
variable {P : Program} {Γ : Cfg} {base : Nat} {st : ASt} {o : Oper}
theorem callSR_det (hD : ∀ f C, Γ.con f = some C → C.det = true → ∀ x, (C.out x).Det) {f : FuncId} {args : List AV} (hf : detC Γ f = true) : (callSR Γ base st f args).Det := by
 unfold callSR
 cases hC : Γ.con f with
 | none => exact bad
 | some C =>
  simp only
  simp only [detC, hC] at hf
  refine bif' (fun _ => opt' fun bs _ => bif' (fun _ => decPTL' fun x => onE' (hD f C hC hf x) fun e => opt' fun _ _ => opt' fun _ _ => ret _) fun _ => bad) fun _ => bad
theorem step_det (hD : ∀ f C, Γ.con f = some C → C.det = true → ∀ x, (C.out x).Det) (h : detO Γ o st = true) : (step P Γ base o st).Det := by
 cases ho : o.op with
 | move x => simp only [step, ho]; exact opt' fun _ _ => ret _
 | assign x => simp only [step, ho]; exact opt' fun _ _ => ret _
 | pick c x y =>
  simp only [step, ho]
  refine opt' fun c _ => opt' fun a _ => opt' fun b _ => ?_
  split <;> first
   | exact ret _
   | exact fork (ret _) (ret _)
   | exact bad
 | alloc e => simp only [step, ho]; exact bif' (fun _ => opt' fun _ _ => ret _) fun _ => bad
 | box e x => simp only [step, ho]; exact bif' (fun _ => opt' fun _ _ => ret _) fun _ => bad
 | build t parts =>
  simp only [step, ho]
  refine opt' fun z _ => ?_
  split
  ·exact bif' (fun _ => opt' fun _ _ => ret _) fun _ => bad
  ·exact bad
 | buildSlice t n parts =>
  simp only [step, ho]
  refine bif' (fun _ => opt' fun _ _ => opt' fun _ _ => opt' fun _ _ => opt' fun _ _ => bif' (fun _ => opt' fun _ _ => opt' fun _ _ => decR' fun xs => ?_) fun _ => bad) fun _ => bad
  exact bif' (fun _ => ret _) fun _ => bad
 | load t x =>
  simp only [step, ho]
  split
  ·rename_i r hr
   exact movLd_det hr
  unfold loadSR
  refine opt' fun p _ => opt' fun a _ => ?_
  split
  ·split
   ·exact opt' fun _ _ => opt' fun _ _ => ret _
   ·exact bad
  ·exact get fun x => giv (opt' fun _ _ => opt' fun _ _ => ret _)
  ·split
   ·exact path fun t l => ldEl' fun _ => opt' fun _ _ => opt' fun _ _ => ret _
   ·exact bad
  ·exact bad
 | store t x v =>
  simp only [step, ho]
  refine opt' fun p _ => opt' fun a _ => opt' fun vs _ => bif' (fun _ => ?_) fun _ => bad
  split
  ·split
   ·exact bif' (fun _ => opt' fun _ _ => ret _) fun _ => bad
   ·exact bad
  ·split
   ·refine bif' (fun _ => opt' fun _ _ => decL' fun cs => el0 fun cs0 => opt' fun _ _ => opt' fun _ _ => ret _) fun _ => bad
   ·exact bad
  ·split
   ·exact bif' (fun _ => upd (fun t l f hf => opt' fun _ _ => decL' fun cs => el0 fun cs0 => opt' fun _ _ => opt' fun _ _ => hf _) fun _ => ret _) fun _ => bad
   ·exact bad
  ·exact bad
 | nilCheck x =>
  simp only [step, ho]
  refine opt' fun a _ => ?_
  split
  ·split
   ·exact ret _
   ·exact bad
  ·exact bad
 | binOp op t x y t' =>
  simp only [detO, ho] at h
  simp only [step, ho]
  refine opt' fun u hu => opt' fun v hv => ?_
  rw [hu, hv] at h
  unfold binA
  split
  ·refine ite' (fun _ => ?_) fun _ => ?_ <;> split <;> first
    | exact req (ret _)
    | exact binI'
    | exact bad
  ·exact binS'
  ·refine bif' (fun _ => ?_) fun _ => bad
   split <;> first | exact decB' | exact bad
  ·cases h
  ·cases h
  ·refine bif' (fun _ => ?_) fun _ => bad
   split <;> first | exact ret _ | exact bad
  ·exact bad
 | unOp op t x =>
  simp only [step, ho]
  refine opt' fun a _ => ?_
  split <;> first
   | exact ret _
   | exact req (ret _)
   | exact bad
 | convert s d x =>
  simp only [step, ho]
  refine opt' fun a _ => ?_
  split
  ·unfold convK
   split <;> first
    | exact ret _
    | exact req (ret _)
    | exact bad
  ·split
   ·refine listOf' fun t l => ?_
    split <;> first
     | exact req (ret _)
     | exact bad
   ·exact bad
  ·exact bad
 | makeFunc fn first captured => cases fn with
  | func f => simp only [step, ho]; exact bif' (fun _ => opt' fun _ _ => ret _) fun _ => bad
  | _ => simp only [step, ho]; exact bad
 | makeSlice t n c =>
  simp only [step, ho]
  refine bif' (fun _ => opt' fun _ _ => opt' fun _ _ => opt' fun _ _ => opt' fun _ _ => opt' fun _ _ => opt' fun _ _ => opt' fun _ _ => bif' (fun _ => ?_) fun _ => bad) fun _ => bad
  split
  ·exact req (decT' fun x => ret _)
  ·exact bad
 | slice t x lo hi m => cases m with
  | none =>
   simp only [step, ho]
   refine opt' fun _ _ => opt' fun _ _ => opt' fun _ _ => ?_
   split
   ·exact boundS' fun a b => ret _
   ·exact bif' (fun _ => boundS' fun a b => ret _) fun _ => bad
   ·split
    ·exact bif' (fun _ => boundS' fun a b => ret _) fun _ => bad
    ·exact bad
   ·exact bad
  | some m => simp only [step, ho]; exact bad
 | fieldAddr s x f =>
  simp only [step, ho]
  refine opt' fun p _ => opt' fun n _ => bif' (fun _ => bad) fun _ => opt' fun a _ => ?_
  split
  ·split
   ·exact ret _
   ·exact bad
  ·exact ret _
  ·split
   ·exact ret _
   ·exact bad
  ·exact bad
 | field s x f =>
  simp only [step, ho]
  refine opt' fun p _ => opt' fun n _ => ?_
  split
  ·exact opt' fun _ _ => opt' fun _ _ => ret _
  ·exact bad
 | indexAddr t x i =>
  simp only [step, ho]
  refine opt' fun _ _ => opt' fun _ _ => opt' fun _ _ => opt' fun _ _ => ?_
  split
  ·split
   ·exact bif' (fun _ => req (ret _)) fun _ => bad
   ·split
    ·exact path fun t l => bif' (fun _ => req (ret _)) fun _ => bad
    ·exact bad
   ·exact bad
  ·exact bad
 | index t x i =>
  simp only [step, ho]
  refine opt' fun _ _ => opt' fun _ _ => ?_
  split
  ·exact req (giv (ret _))
  ·exact bad
 | extract x i =>
  simp only [step, ho]
  split
  ·exact opt' fun _ _ => ret _
  ·exact bad
 | call c =>
  simp only [detO, ho] at h
  simp only [step, ho]
  refine opt' fun args hargs => ?_
  cases hc : c.callee with
  | invoke => exact bad
  | value x =>
   rw [hc] at h
   have key : (match st.ev1 x with | some (.fn f _) => detC Γ f | _ => true) = true → (match st.ev1 x with
     | some (.fn f caps) => callSR Γ base st f (args ++ caps.map fun i => AV.one (.ref i 0))
     | _ => SR.bad).Det := fun h => by
    split
    ·rename_i f caps hv
     rw [hv] at h
     exact callSR_det hD h
    ·exact bad
   cases x with
   | func f => exact callSR_det hD h
   | _ => exact key h
  | builtin b =>
   cases b with
   | len =>
    simp only
    split <;> try exact bad
    split <;> first
     | exact giv (ret _)
     | exact listOf' fun t l => giv (ret _)
     | exact bad
   | append =>
    simp only
    split <;> try exact bad
    refine bif' (fun _ => ?_) fun _ => bad
    unfold appendSR
    split
    ·exact bad
    ·split
     ·refine bif' (fun _ => listOf' fun t2 l2 => ?_) fun _ => bad
      split
      ·generalize own0 st.tb _ = ow
       obtain ⟨ow, dl⟩ := ow
       dsimp only
       split
       ·split
        ·split
         ·exact bif' (fun _ => req (ret _)) fun _ => bad
         ·exact bad
        ·exact bad
       ·exact req (ret _)
       ·exact bad
      ·exact bad
     ·exact bad
   | copy =>
    have key : ∀ id lo n x, (copySR st id lo n x).Det := fun id lo n x => by
     unfold copySR
     split
     ·refine bif' (fun _ => listOf' fun t l => ?_) fun _ => bad
      split
      ·split
       ·exact ret _
       ·exact giv (ret _)
      ·exact bad
     ·exact bad
    simp only
    split <;> try exact bad
    refine bif' (fun _ => ?_) fun _ => bad
    split <;> first
     | exact key _ _ _ _
     | exact bad
   | max => simp only; split <;> first | exact ret _ | exact bad
   | min => simp only; split <;> first | exact ret _ | exact bad
   | _ => exact bad
 | _ => simp only [step, ho]; exact bad
theorem gstep_det (hD : ∀ f C, Γ.con f = some C → C.det = true → ∀ x, (C.out x).Det) (h : detO Γ o st = true) (ops : List Oper) (i : Nat) : (gstep P Γ ops i base o st).Det := by
 unfold gstep
 split
 ·exact fillDet (step_det hD h)
 ·split
  ·exact bif' (fun _ => fillDet (step_det hD h)) fun _ => ret _
  ·split
   ·exact ret _
   ·exact bad
  ·exact bad
end
end Go.Proofs.YtpgglbnagphgoaaGreat
/- Regions of any order: what is apart may be done in either order. No program is in sight. -/
namespace Go.Proofs.YtpgglbnagphgoaaGreat
open Go.RowKit
open SR (opt)

def Same (st st' : ASt) : Prop := (∀ i, lk st'.fr i = lk st.fr i) ∧ ∀ i, lk st'.tb i = lk st.tb i
theorem Same.rfl' {st : ASt} : Same st st := ⟨fun _ => rfl, fun _ => rfl⟩
theorem Same.symm {a b : ASt} (h : Same a b) : Same b a := ⟨fun i => (h.1 i).symm, fun i => (h.2 i).symm⟩
theorem Same.trans {a b c : ASt} (h : Same a b) (h' : Same b c) : Same a c := ⟨fun i => (h'.1 i).trans (h.1 i), fun i => (h'.2 i).trans (h.2 i)⟩

section
variable {w : World} {E : Env} {tb tb' : Tb}
theorem Fz_same (hl : ∀ i, lk tb' i = lk tb i) : Fz w E tb' = Fz w E tb := by
 funext b
 simp only [Fz, hl]
theorem RepA_same (hl : ∀ i, lk tb' i = lk tb i) {v : Value} {x : A1} : RepA w E tb' v x = RepA w E tb v x := by
 cases x <;> simp only [RepA, refOk, hl, Fz_same hl]
theorem RepL_same (hl : ∀ i, lk tb' i = lk tb i) {v : Array Value} {x : List A1} : RepL w E tb' v x = RepL w E tb v x := by
 simp only [RepL, RepA_same hl]
theorem RepT_same (hl : ∀ i, lk tb' i = lk tb i) {v : Value} {x : Bool × List A1} : RepT w E tb' v x = RepT w E tb v x := by
 obtain ⟨b, l⟩ := x
 cases b <;> simp only [RepT, RepL_same hl, RepA_same hl]
theorem RepV_same (hl : ∀ i, lk tb' i = lk tb i) {v : Value} {x : AV} : RepV w E tb' v x = RepV w E tb v x := by
 cases x <;> simp only [RepV, RepL_same hl, RepA_same hl, RepT_same hl]
theorem BlkOk_same {W0 : World} (hl : ∀ i, lk tb' i = lk tb i) {id : Nat} {b : Blk} : BlkOk W0 w E tb' id b = BlkOk W0 w E tb id b := by
 cases b <;> simp only [BlkOk, RepL_same hl, Fz_same hl]
end
theorem Sat.same {W0 w : World} {E0 E : Env} {nl N : Nat} {st st' : ASt} {a : Act} (h : Sat W0 E0 nl N st E a w) (s : Same st st') : Sat W0 E0 nl N st' E a w := {
 defers := h.defers
 size := h.size
 slots := fun i v hi => by
  rw [s.1] at hi
  obtain ⟨u, h1, h2⟩ := h.slots i v hi
  exact ⟨u, h1, by rw [RepV_same s.2]; exact h2⟩
 blks := fun id b hb => by rw [BlkOk_same s.2]; rw [s.2] at hb; exact h.blks id b hb
 disj := fun id id' b h1 h2 => by rw [s.2] at h1 h2; exact h.disj id id' b h1 h2
 mine := fun id b h1 => by rw [s.2] at h1; exact h.mine id b h1
 lent := fun id h0 h1 => by rw [s.2] at h1; exact h.lent id h0 h1
 frame := h.frame
 big := h.big
 ro := h.ro
 roE := h.roE
 os := h.os
 tape := h.tape
 output := h.output }

theorem mem?_no {l : List Nat} {i : Nat} : mem? l i = false ↔ i ∉ l := by
 rw [← Bool.not_eq_true, mem?_iff]
theorem thru1_ids {d : List Nat} {a : A1} (h : thru1 d a = true) : ∃ i ∈ d, i ∈ thr1 a := by
 cases a with
 | sl i p => cases p with
  | nil => cases h
  | cons => exact ⟨i, (mem?_iff _ _).1 h, by simp [thr1]⟩
 | ptr i p => cases p with
  | nil => cases h
  | cons => exact ⟨i, (mem?_iff _ _).1 h, by simp [thr1]⟩
 | _ => cases h
theorem thruL_ids {d : List Nat} {l : List A1} (h : thruL d l = true) : ∃ i ∈ d, i ∈ thrL l := by
 induction l with
 | nil => cases h
 | cons a l ih =>
  simp only [thruL, Bool.or_eq_true] at h
  rcases h with h | h
  ·obtain ⟨i, h1, h2⟩ := thru1_ids h
   exact ⟨i, h1, by simp [thrL, h2]⟩
  ·obtain ⟨i, h1, h2⟩ := ih h
   exact ⟨i, h1, by simp [thrL, h2]⟩
theorem thruT_ids {d : List Nat} {l : List (Bool × List A1)} (h : thruT d l = true) : ∃ i ∈ d, i ∈ thrT l := by
 induction l with
 | nil => cases h
 | cons a l ih =>
  simp only [thruT, Bool.or_eq_true] at h
  rcases h with h | h
  ·obtain ⟨i, h1, h2⟩ := thruL_ids h
   exact ⟨i, h1, by simp [thrT, h2]⟩
  ·obtain ⟨i, h1, h2⟩ := ih h
   exact ⟨i, h1, by simp [thrT, h2]⟩
theorem thru_ids {d : List Nat} {v : AV} (h : v.thru d = true) : ∃ i ∈ d, i ∈ thrA v := by
 cases v with
 | one a => exact thru1_ids h
 | agg l => exact thruL_ids h
 | tup l => exact thruT_ids h
theorem thru_no {d : List Nat} {v : AV} (h : ∀ i ∈ d, i ∉ thrA v) : v.thru d = false := by
 cases hh : v.thru d with
 | false => rfl
 | true => obtain ⟨i, h1, h2⟩ := thru_ids hh; exact absurd h2 (h i h1)
theorem thru_nil (v : AV) : v.thru [] = false := thru_no fun i hi => by cases hi

theorem lk_dropT_eq {ids : List Nat} : ∀ {fr : Fr} {i : Nat}, lk (dropT ids fr) i = (lk fr i).filter (fun v => !v.thru ids) := by
 intro fr
 induction fr with
 | nil => intro i; rfl
 | cons p fr ih =>
  obtain ⟨j, v⟩ := p
  intro i
  simp only [dropT]
  rw [lk_cons]
  cases hv : v.thru ids with
  | true =>
   simp only [cond_true]
   rw [lk_erl]
   by_cases e : i = j
   ·subst e; simp [hv, Option.filter]
   ·rw [if_neg (by simpa using e), if_neg e, ih]
  | false =>
   simp only [cond_false]
   rw [lk_cons]
   by_cases e : i = j
   ·subst e; simp [hv, Option.filter]
   ·rw [if_neg e, if_neg e, ih]
theorem lk_killF {kill : List Nat} {fr : Fr} {i : Nat} : lk (killF kill fr) i = (lk fr i).filter (fun v => !v.thru kill) := by
 cases kill with
 | nil =>
  show lk fr i = _
  cases lk fr i with
  | none => rfl
  | some v => simp [thru_nil, Option.filter]
 | cons k ks => exact lk_dropT_eq
theorem lk_putF {d : Option Nat} {v : AV} {fr : Fr} {i : Nat} : lk (putF d v fr) i = if d = some i then some v else lk fr i := by
 cases d with
 | none => simp [putF]
 | some d =>
  simp only [putF, lk_cons]
  by_cases e : i = d
  ·subst e; simp
  ·rw [if_neg e, if_neg (by intro h; injection h with h; exact e h.symm)]
theorem app_fr {st : ASt} {d : Option Nat} {e : Eff} {i : Nat} : lk (e.app st d).fr i = if d = some i then some e.val else (lk st.fr i).filter (fun v => !v.thru e.kill) := by
 show lk (putF d e.val (killF e.kill st.fr)) i = _
 rw [lk_putF, lk_killF]
theorem app_tb {st : ASt} {d : Option Nat} {e : Eff} {i : Nat} : lk (e.app st d).tb i = (lk e.ins i).or (if i ∈ e.del then none else lk st.tb i) := by
 show lk (e.ins ++ erl e.del st.tb) i = _
 rw [lk_append, lk_erl]
theorem app_same {st st' : ASt} (h : Same st st') (d : Option Nat) (e : Eff) : Same (e.app st d) (e.app st' d) :=
 ⟨fun i => by rw [app_fr, app_fr, h.1], fun i => by rw [app_tb, app_tb, h.2]⟩

theorem keys_lk {tb : Tb} {i : Nat} : i ∉ keysOf tb → lk tb i = none := by
 induction tb with
 | nil => intro _; rfl
 | cons p tb ih =>
  obtain ⟨j, b⟩ := p
  intro h
  simp only [keysOf, List.mem_cons, not_or] at h
  rw [lk_cons, if_neg h.1, ih h.2]
structure Apart (d1 : Option Nat) (e1 : Eff) (d2 : Option Nat) (e2 : Eff) : Prop where
 d : ∀ d, d1 = some d → d2 ≠ some d
 v1 : e1.val.thru e2.kill = false
 v2 : e2.val.thru e1.kill = false
 k1 : ∀ i ∈ keysOf e1.ins ++ e1.del, i ∉ keysOf e2.ins ++ e2.del
theorem app_comm {st : ASt} {d1 d2 : Option Nat} {e1 e2 : Eff} (h : Apart d1 e1 d2 e2) : Same (e2.app (e1.app st d1) d2) (e1.app (e2.app st d2) d1) := by
 refine ⟨fun i => ?_, fun i => ?_⟩
 ·rw [app_fr, app_fr, app_fr, app_fr]
  by_cases h1 : d1 = some i
  ·have h2 : d2 ≠ some i := h.d i h1
   rw [if_pos h1, if_neg h2, if_pos h1]
   simp [h.v1, Option.filter]
  ·by_cases h2 : d2 = some i
   ·rw [if_neg h1, if_pos h2, if_pos h2]
    simp [h.v2, Option.filter]
   ·rw [if_neg h1, if_neg h2, if_neg h2, if_neg h1]
    cases lk st.fr i with
    | none => rfl
    | some v =>
     cases ha : v.thru e1.kill <;> cases hb : v.thru e2.kill <;> simp [Option.filter, ha, hb]
 ·rw [app_tb, app_tb, app_tb, app_tb]
  by_cases h1 : i ∈ keysOf e1.ins ++ e1.del
  ·have h2 := h.k1 i h1
   simp only [List.mem_append, not_or] at h2
   rw [keys_lk h2.1, if_neg h2.2, if_neg h2.2]
   simp
  ·simp only [List.mem_append, not_or] at h1
   rw [keys_lk h1.1, if_neg h1.2, if_neg h1.2]
   simp

theorem disj?_iff {l m : List Nat} : disj? l m = true ↔ ∀ i ∈ l, i ∉ m := by
 simp only [disj?, List.all_eq_true, Bool.not_eq_true']
 exact ⟨fun h i hi => mem?_no.1 (h i hi), fun h i hi => mem?_no.2 (h i hi)⟩
theorem optOut_iff {d : Option Nat} {l : List Nat} : optOut d l = true ↔ ∀ i, d = some i → i ∉ l := by
 cases d with
 | none => simp [optOut]
 | some d => simp only [optOut, Bool.not_eq_true', mem?_no]; exact ⟨fun h i hi => by injection hi with hi; subst hi; exact h, fun h => h d rfl⟩
theorem optNe_iff {a b : Option Nat} : optNe a b = true ↔ ∀ i, a = some i → b ≠ some i := by
 cases a with
 | none => simp [optNe]
 | some a => cases b with
  | none => simp [optNe]
  | some b =>
   simp only [optNe, Bool.not_eq_true']
   constructor
   ·rintro h i hi hb
    injection hi with hi
    injection hb with hb
    subst hi hb
    rw [Nat.beq_refl] at h
    cases h
   ·intro h
    cases hh : Nat.beq a b with
    | false => rfl
    | true => exact absurd (by rw [(beq_iff _ _).1 hh]) (h a rfl)
structure Ind (f g : Ft) : Prop where
 wm : ∀ i ∈ f.w, i ∉ g.m
 ww : ∀ i ∈ f.w, i ∉ g.w
 mw : ∀ i ∈ g.w, i ∉ f.m
 kv : ∀ i ∈ f.k, i ∉ g.h
 vk : ∀ i ∈ g.k, i ∉ f.h
 ds : ∀ i, f.d = some i → i ∉ g.s
 sd : ∀ i, g.d = some i → i ∉ f.s
 dd : ∀ i, f.d = some i → g.d ≠ some i
theorem indep_iff {f g : Ft} : indep f g = true → Ind f g := by
 intro h
 simp only [indep, Bool.and_eq_true, disj?_iff, optOut_iff, optNe_iff] at h
 obtain ⟨⟨⟨⟨⟨⟨⟨h1, h2⟩, h3⟩, k1⟩, k2⟩, h4⟩, h5⟩, h6⟩ := h
 exact ⟨h1, h2, h3, k1, k2, h4, h5, h6⟩
theorem Ind.symm {f g : Ft} (h : Ind f g) : Ind g f := ⟨h.mw, fun i h1 h2 => h.ww i h2 h1, h.wm, h.vk, h.kv, h.sd, h.ds, fun i h1 h2 => h.dd i h2 h1⟩
theorem Ind.apart {ops ops' : List Oper} {o o' : Oper} {st st' : ASt} {e e' : Eff} (h : Ind (ftOf ops o st e) (ftOf ops' o' st' e')) : Apart o.dst e o'.dst e' := {
 d := h.dd
 v1 := thru_no fun i h1 h2 => h.vk i h1 (by simp [ftOf, h2])
 v2 := thru_no fun i h1 h2 => h.kv i h1 (by simp [ftOf, h2])
 k1 := fun i h1 h2 => h.ww i (by simp only [ftOf, List.mem_append] at *; rcases h1 with h1 | h1; exact .inl h1; exact .inr (.inl h1)) (by simp only [ftOf, List.mem_append] at *; rcases h2 with h2 | h2; exact .inl h2; exact .inr (.inl h2)) }

def sub (S : Nat → Bool) : Nat → List (Oper × Eff) → ASt → ASt
 | _, [], st => st
 | i, p :: L, st => sub S (i + 1) L (bif S i then p.2.app st p.1.dst else st)
theorem sub_same {S : Nat → Bool} : ∀ {L : List (Oper × Eff)} {i : Nat} {st st' : ASt}, Same st st' → Same (sub S i L st) (sub S i L st') := by
 intro L
 induction L with
 | nil => intro i st st' h; exact h
 | cons p L ih =>
  intro i st st' h
  refine ih ?_
  cases S i with
  | true => exact app_same h _ _
  | false => exact h
theorem sub_ext {S S' : Nat → Bool} : ∀ {L : List (Oper × Eff)} {i : Nat} {st : ASt}, (∀ j, i ≤ j → S j = S' j) → sub S i L st = sub S' i L st := by
 intro L
 induction L with
 | nil => intro i st _; rfl
 | cons p L ih =>
  intro i st h
  simp only [sub]
  rw [h i (Nat.le_refl _), ih fun j hj => h j (by omega)]
theorem sub_push {S : Nat → Bool} {o : Oper} {e : Eff} : ∀ {L : List (Oper × Eff)} {i : Nat} {st : ASt}, (∀ k p, L[k]? = some p → S (i + k) = true → Apart o.dst e p.1.dst p.2) → Same (e.app (sub S i L st) o.dst) (sub S i L (e.app st o.dst)) := by
 intro L
 induction L with
 | nil => intro i st _; exact Same.rfl'
 | cons p L ih =>
  intro i st h
  have ih' := fun {st} => ih (i := i + 1) (st := st) fun k q hq hS => h (k + 1) q (by simpa using hq) (by rwa [show i + (k + 1) = i + 1 + k from by omega])
  simp only [sub]
  cases hS : S i with
  | false => exact ih'
  | true =>
   simp only [cond_true]
   exact ih'.trans (sub_same (app_comm (h 0 p rfl (by simpa using hS))).symm)
theorem sub_ins {S : Nat → Bool} {j : Nat} {o : Oper} {e : Eff} (hj : S j = false) : ∀ {L : List (Oper × Eff)} {i : Nat} {st : ASt}, i ≤ j → L[j - i]? = some (o, e) → (∀ k p, L[k]? = some p → j < i + k → S (i + k) = true → Apart o.dst e p.1.dst p.2) →
  Same (e.app (sub S i L st) o.dst) (sub (fun k => bif Nat.beq k j then true else S k) i L st) := by
 intro L
 induction L with
 | nil => intro i st _ h; simp at h
 | cons p L ih =>
  intro i st hi hL h
  simp only [sub]
  by_cases e1 : i = j
  ·subst e1
   rw [Nat.sub_self] at hL
   simp only [List.getElem?_cons_zero, Option.some.injEq] at hL
   subst hL
   rw [Nat.beq_refl, hj]
   simp only [cond_true, cond_false]
   rw [sub_ext (S := fun k => bif Nat.beq k i then true else S k) (S' := S) fun k hk => by
    have : Nat.beq k i = false := by
     cases hh : Nat.beq k i with
     | false => rfl
     | true => have := (beq_iff _ _).1 hh; omega
    rw [this]; rfl]
   exact sub_push fun k q hq hS => h (k + 1) q (by simpa using hq) (by omega) (by rwa [show i + (k + 1) = i + 1 + k from by omega])
  ·have hb : Nat.beq i j = false := by
    cases hh : Nat.beq i j with
    | false => rfl
    | true => exact absurd ((beq_iff _ _).1 hh) e1
   rw [hb]
   simp only [cond_false]
   refine ih (by omega) ?_ fun k q hq hk hS => h (k + 1) q (by simpa using hq) (by omega) (by rwa [show i + (k + 1) = i + 1 + k from by omega])
   rw [show j - i = (j - (i + 1)) + 1 from by omega] at hL
   simpa using hL
end Go.Proofs.YtpgglbnagphgoaaGreat
/- Regions of any order: what an operation looks at is the same in all of them. No program is in sight. -/
namespace Go.Proofs.YtpgglbnagphgoaaGreat
open Go.RowKit
open SR (opt)

theorem okId_iff {nx n i id : Nat} {b : List Nat} : okId nx n b i id = true ↔ id < nx ∨ nx + 16 * n ≤ id ∨ (id - nx) / 16 = i ∨ (id - nx) / 16 ∈ b := by
 simp only [okId, Bool.or_eq_true, mem?_iff, beq_iff]
 constructor
 ·rintro (((h | h) | h) | h)
  ·exact .inl (Nat.le_of_ble_eq_true h)
  ·exact .inr (.inl (Nat.le_of_ble_eq_true h))
  ·exact .inr (.inr (.inl h))
  ·exact .inr (.inr (.inr h))
 ·rintro (h | h | h | h)
  ·exact .inl (.inl (.inl (Nat.ble_eq_true_of_le h)))
  ·exact .inl (.inl (.inr (Nat.ble_eq_true_of_le h)))
  ·exact .inl (.inr h)
  ·exact .inr h
theorem outR_iff {n i : Nat} : outR n i = true ↔ i < n ∨ n + 16 ≤ i := by
 simp only [outR, Bool.or_eq_true]
 constructor
 ·rintro (h | h)
  ·exact .inl (Nat.le_of_ble_eq_true h)
  ·exact .inr (Nat.le_of_ble_eq_true h)
 ·rintro (h | h)
  ·exact .inl (Nat.ble_eq_true_of_le h)
  ·exact .inr (Nat.ble_eq_true_of_le h)
theorem bel1_of {n : Nat} {a : A1} (h : ∀ i ∈ ids1 a, outR n i = true) : bel1 n a = true := by
 cases a <;> first
  | rfl
  | exact h _ (by simp [ids1])
  | exact List.all_eq_true.2 h
theorem belL_of {n : Nat} {l : List A1} (h : ∀ i ∈ idsL l, outR n i = true) : l.all (bel1 n) = true := by
 induction l with
 | nil => rfl
 | cons a l ih =>
  simp only [List.all_cons, Bool.and_eq_true]
  exact ⟨bel1_of fun i hi => h i (by simp [idsL, hi]), ih fun i hi => h i (by simp [idsL, hi])⟩
theorem belT_of {n : Nat} {l : List (Bool × List A1)} (h : ∀ i ∈ idsT l, outR n i = true) : (l.all fun p => p.2.all (bel1 n)) = true := by
 induction l with
 | nil => rfl
 | cons a l ih =>
  simp only [List.all_cons, Bool.and_eq_true]
  exact ⟨belL_of fun i hi => h i (by simp [idsT, hi]), ih fun i hi => h i (by simp [idsT, hi])⟩
theorem belV_of {n : Nat} {v : AV} (h : ∀ i ∈ idsA v, outR n i = true) : belV n v = true := by
 cases v with
 | one a => exact bel1_of h
 | agg l => exact belL_of h
 | tup l => exact belT_of h
theorem belF_of {n : Nat} {fr : Fr} (h : ∀ i ∈ idsF fr, outR n i = true) : belF n fr = true := by
 induction fr with
 | nil => rfl
 | cons p fr ih =>
  obtain ⟨j, v⟩ := p
  simp only [belF, Bool.and_eq_true]
  exact ⟨belV_of fun i hi => h i (by simp [idsF, hi]), ih fun i hi => h i (by simp [idsF, hi])⟩
theorem belB_of {n : Nat} {tb : Tb} (h : ∀ i ∈ idsTb tb, outR n i = true) (hk : ∀ i ∈ keysOf tb, outR n i = true) : belB n tb = true := by
 induction tb with
 | nil => rfl
 | cons p tb ih =>
  obtain ⟨j, b⟩ := p
  simp only [belB, Bool.and_eq_true]
  refine ⟨⟨hk j (by simp [keysOf]), ?_⟩, ih (fun i hi => h i (by simp [idsTb, hi])) fun i hi => hk i (by simp [keysOf, hi])⟩
  cases b with
  | box f l => exact belL_of fun i hi => h i (by simp [idsTb, idsB, hi])
  | row => rfl
theorem belF_erl {n : Nat} {fr : Fr} {d : List Nat} (h : belF n fr = true) : belF n (erl d fr) = true := by
 induction fr with
 | nil => rfl
 | cons p fr ih =>
  obtain ⟨j, v⟩ := p
  simp only [belF, Bool.and_eq_true] at h
  simp only [erl]
  cases mem? d j with
  | true => exact ih h.2
  | false => simp only [cond_false, belF, Bool.and_eq_true]; exact ⟨h.1, ih h.2⟩
theorem belF_drop {n : Nat} {fr : Fr} {d : List Nat} (h : belF n fr = true) : belF n (dropT d fr) = true := by
 induction fr with
 | nil => rfl
 | cons p fr ih =>
  obtain ⟨j, v⟩ := p
  simp only [belF, Bool.and_eq_true] at h
  simp only [dropT]
  cases v.thru d with
  | true => exact belF_erl (ih h.2)
  | false => simp only [cond_false, belF, Bool.and_eq_true]; exact ⟨h.1, ih h.2⟩
theorem belB_erl {n : Nat} {tb : Tb} {d : List Nat} (h : belB n tb = true) : belB n (erl d tb) = true := by
 induction tb with
 | nil => rfl
 | cons p tb ih =>
  obtain ⟨j, v⟩ := p
  simp only [belB, Bool.and_eq_true] at h
  simp only [erl]
  cases mem? d j with
  | true => exact ih h.2
  | false => simp only [cond_false, belB, Bool.and_eq_true]; exact ⟨h.1, ih h.2⟩
theorem belB_app {n : Nat} {tb tb' : Tb} (h : belB n tb = true) (h' : belB n tb' = true) : belB n (tb ++ tb') = true := by
 induction tb with
 | nil => exact h'
 | cons p tb ih =>
  obtain ⟨j, v⟩ := p
  simp only [belB, Bool.and_eq_true, List.cons_append] at *
  exact ⟨h.1, ih h.2⟩
theorem bel_app {n : Nat} {st : ASt} {e : Eff} {d : Option Nat} (h : st.bel n = true) (h1 : ∀ i ∈ idsA e.val, outR n i = true) (h2 : ∀ i ∈ idsTb e.ins, outR n i = true) (h3 : ∀ i ∈ keysOf e.ins, outR n i = true) : (e.app st d).bel n = true := by
 simp only [ASt.bel, Bool.and_eq_true] at h ⊢
 obtain ⟨⟨g1, g2⟩, g3⟩ := h
 have gk : belF n (killF e.kill st.fr) = true := by
  cases hk : e.kill with
  | nil => exact g2
  | cons => exact belF_drop g2
 refine ⟨⟨g1, ?_⟩, belB_app (belB_of h2 h3) (belB_erl g3)⟩
 show belF n (putF d e.val (killF e.kill st.fr)) = true
 cases d with
 | none => exact gk
 | some d => simp only [putF, belF, Bool.and_eq_true]; exact ⟨belV_of h1, gk⟩
theorem noT_box {ids : List Nat} {tb : Tb} (h : noT tb = true) : boxT ids tb = false := by
 have hL : ∀ l : List A1, (l.all fun a => !thruA a) = true → thruL ids l = false := fun l => by
  induction l with
  | nil => intro _; rfl
  | cons a l ih =>
   intro h
   simp only [List.all_cons, Bool.and_eq_true, Bool.not_eq_true'] at h
   simp only [thruL, ih (by simpa using h.2), Bool.or_false]
   cases a with
   | sl i p => cases p with
    | nil => rfl
    | cons => simp [thruA] at h
   | ptr i p => cases p with
    | nil => rfl
    | cons => simp [thruA] at h
   | _ => rfl
 induction tb with
 | nil => rfl
 | cons p tb ih =>
  obtain ⟨j, b⟩ := p
  cases b with
  | box f l =>
   simp only [noT, Bool.and_eq_true] at h
   simp only [boxT, hL l h.1, ih h.2, Bool.or_self]
  | row => exact ih h
theorem boxT_app {ids : List Nat} : ∀ {tb tb' : Tb}, boxT ids (tb ++ tb') = (boxT ids tb || boxT ids tb') := by
 intro tb
 induction tb with
 | nil => intro tb'; rfl
 | cons p tb ih =>
  intro tb'
  obtain ⟨j, b⟩ := p
  cases b with
  | box f l => simp only [List.cons_append, boxT, ih, Bool.or_assoc]
  | row => simp only [List.cons_append, boxT, ih]
theorem tKeys_app : ∀ {tb tb' : Tb}, noT tb = true → tKeys (tb ++ tb') = tKeys tb' := by
 intro tb
 induction tb with
 | nil => intro tb' _; rfl
 | cons p tb ih =>
  intro tb' h
  obtain ⟨j, b⟩ := p
  cases b with
  | box f l =>
   simp only [noT, Bool.and_eq_true] at h
   simp only [List.cons_append, tKeys, h.1, cond_true, ih h.2]
  | row => exact ih h
theorem thruL_no {ids : List Nat} : ∀ {l : List A1}, (l.all fun a => !thruA a) = true → thruL ids l = false := by
 intro l h
 have := noT_box (ids := ids) (tb := [(0, .box false l)]) (by simp [noT, h])
 simpa [boxT] using this
theorem erl_box {ids d : List Nat} : ∀ {tb : Tb}, disj? (tKeys tb) d = true → boxT ids (erl d tb) = boxT ids tb ∧ tKeys (erl d tb) = tKeys tb := by
 intro tb
 induction tb with
 | nil => intro _; exact ⟨rfl, rfl⟩
 | cons p tb ih =>
  intro h
  obtain ⟨j, b⟩ := p
  cases b with
  | row =>
   have g := ih h
   simp only [erl]
   cases mem? d j with
   | true => exact ⟨g.1, g.2⟩
   | false => exact ⟨g.1, g.2⟩
  | box f l =>
   simp only [erl]
   cases hl : l.all (fun a => !thruA a) with
   | true =>
    have h' : disj? (tKeys tb) d = true := by simpa [tKeys, hl] using h
    have g := ih h'
    have e : boxT ids ((j, .box f l) :: tb) = boxT ids tb := by simp only [boxT, thruL_no hl, Bool.false_or]
    have e2 : tKeys ((j, .box f l) :: tb) = tKeys tb := by simp only [tKeys, hl, cond_true]
    rw [e, e2]
    cases mem? d j with
    | true => exact g
    | false =>
     refine ⟨?_, ?_⟩
     ·show boxT ids ((j, .box f l) :: erl d tb) = _
      simp only [boxT, thruL_no hl, Bool.false_or]; exact g.1
     ·show tKeys ((j, .box f l) :: erl d tb) = _
      simp only [tKeys, hl, cond_true]; exact g.2
   | false =>
    have e2 : tKeys ((j, .box f l) :: tb) = j :: tKeys tb := by simp only [tKeys, hl, cond_false]
    rw [e2] at h
    simp only [disj?, List.all_cons, Bool.and_eq_true, Bool.not_eq_true'] at h
    have g := ih h.2
    rw [h.1, e2]
    refine ⟨?_, ?_⟩
    ·show boxT ids ((j, .box f l) :: erl d tb) = _
     simp only [boxT]; rw [g.1]
    ·show tKeys ((j, .box f l) :: erl d tb) = _
     simp only [tKeys, hl, cond_false]; rw [g.2]
theorem app_box {ids : List Nat} {e : Eff} {st : ASt} {d : Option Nat} (h : noT e.ins = true) (h' : disj? (tKeys st.tb) e.del = true) : boxT ids (e.app st d).tb = boxT ids st.tb ∧ tKeys (e.app st d).tb = tKeys st.tb := by
 have g := erl_box (ids := ids) h'
 refine ⟨?_, ?_⟩
 ·show boxT ids (e.ins ++ erl e.del st.tb) = _
  rw [boxT_app, noT_box h, Bool.false_or]; exact g.1
 ·show tKeys (e.ins ++ erl e.del st.tb) = _
  rw [tKeys_app h]; exact g.2

def pst (L : List (Oper × Eff)) (st0 : ASt) (i : Nat) : ASt := sub (fun k => Nat.blt k i) 0 L st0
structure Path (P : Program) (Γ : Cfg) (ops : List Oper) (nx : Nat) (bf : List (List Nat)) (st0 : ASt) (L : List (Oper × Eff)) : Prop where
 len : L.length ≤ ops.length
 fst : ∀ (i : Nat) (o : Oper) (e : Eff), L[i]? = some (o, e) → ops[i]? = some o
 lt : ∀ i j, j ∈ (nth bf i).getD [] → j < i
 nx20 : 20 ≤ nx
 clr : clear st0 nx ops.length = true
 pre : ∀ (i : Nat) (o : Oper) (e : Eff), L[i]? = some (o, e) → (gstep P Γ ops i (nx + 16 * i) o (pst L st0 i)).pre ∧ (gstep P Γ ops i (nx + 16 * i) o (pst L st0 i)).outs e
 det : ∀ (i : Nat) (o : Oper) (e : Eff), L[i]? = some (o, e) → detO Γ o (pst L st0 i) = true ∨ ∀ k, i < k → k < ops.length → i ∈ (nth bf k).getD []
 rng : ∀ (i : Nat) (o : Oper) (e : Eff), L[i]? = some (o, e) → ∀ id, id ∈ (ftOf ops o (pst L st0 i) e).v ∨ id ∈ (ftOf ops o (pst L st0 i) e).w → okId nx ops.length ((nth bf i).getD []) i id = true
 has : ∀ (i : Nat) (o : Oper) (e : Eff), L[i]? = some (o, e) → ∀ t ∈ (ftOf ops o (pst L st0 i) e).s, (lk (pst L st0 i).fr t).isSome = true
 noE : ∀ (i : Nat) (o : Oper) (e : Eff), L[i]? = some (o, e) → noT e.ins = true ∧ disj? (tKeys st0.tb) e.del = true
 ind : ∀ (i : Nat) (o : Oper) (e : Eff) (j : Nat) (o' : Oper) (e' : Eff), j < i → L[i]? = some (o, e) → L[j]? = some (o', e') → j ∈ (nth bf i).getD [] ∨ Ind (ftOf ops o (pst L st0 i) e) (ftOf ops o' (pst L st0 j) e')

structure AgS (f : Ft) (st Y : ASt) : Prop where
 s : ∀ t ∈ f.s, lk Y.fr t = lk st.fr t
 m : ∀ id ∈ f.m, lk Y.tb id = lk st.tb id
theorem slotsOf_mem {t : Nat} : ∀ {l : List Operand}, t ∈ slotsOf l ↔ Operand.tmp t ∈ l := by
 intro l
 induction l with
 | nil => simp [slotsOf]
 | cons x l ih => cases x <;> simp [slotsOf, ih]
theorem AgS.same {f : Ft} {st Y Y' : ASt} (h : AgS f st Y) (s : Same Y Y') : AgS f st Y' := ⟨fun t ht => by rw [s.1, h.s t ht], fun i hi => by rw [s.2, h.m i hi]⟩
theorem AgS.plus {ops ops' : List Oper} {o o' : Oper} {st st' Y : ASt} {e e' : Eff} (h : AgS (ftOf ops o st e) st Y) (hi : Ind (ftOf ops o st e) (ftOf ops' o' st' e')) (hs : ∀ t ∈ (ftOf ops o st e).s, (lk st.fr t).isSome = true) : AgS (ftOf ops o st e) st (e'.app Y o'.dst) := {
 s := fun t ht => by
  rw [app_fr, if_neg (show ¬ o'.dst = some t from fun hd => hi.sd t hd ht), h.s t ht]
  obtain ⟨v, hv⟩ := Option.isSome_iff_exists.1 (hs t ht)
  rw [hv]
  have : v.thru e'.kill = false := thru_no fun i h1 h2 => hi.vk i h1 (by
   simp only [ftOf, List.mem_append]
   left
   exact opThr_mem (slotsOf_mem.1 ht) (by simpa [ASt.ev] using hv) i h2)
  simp [Option.filter, this]
 m := fun i hm => by
  have hw := fun hw => hi.mw i hw hm
  rw [app_tb, keys_lk fun hk => hw (by simp [ftOf, hk]), if_neg fun hd => hw (by simp [ftOf, hd]), h.m i hm]
  simp }
theorem AgS.minus {ops ops' : List Oper} {o o' : Oper} {st st' Y : ASt} {e e' : Eff} (h : AgS (ftOf ops o st e) st (e'.app Y o'.dst)) (hi : Ind (ftOf ops o st e) (ftOf ops' o' st' e')) (hs : ∀ t ∈ (ftOf ops o st e).s, (lk st.fr t).isSome = true) : AgS (ftOf ops o st e) st Y := {
 s := fun t ht => by
  have := h.s t ht
  rw [app_fr, if_neg (show ¬ o'.dst = some t from fun hd => hi.sd t hd ht)] at this
  obtain ⟨v, hv⟩ := Option.isSome_iff_exists.1 (hs t ht)
  rw [hv] at this ⊢
  exact (Option.filter_eq_some_iff.1 this).1
 m := fun i hm => by
  have hw := fun hw => hi.mw i hw hm
  have := h.m i hm
  rw [app_tb, keys_lk fun hk => hw (by simp [ftOf, hk]), if_neg fun hd => hw (by simp [ftOf, hd])] at this
  simpa using this }

section
variable {P : Program} {Γ : Cfg} {ops : List Oper} {nx : Nat} {bf : List (List Nat)} {st0 : ASt} {L : List (Oper × Eff)}
theorem Path.agree (p : Path P Γ ops nx bf st0 L) {S : Nat → Bool} (hcl : ∀ k, S k = true → ∀ j ∈ (nth bf k).getD [], S j = true) (hn : ∀ k, S k = true → k < L.length) {i : Nat} {o : Oper} {e : Eff} (hi : L[i]? = some (o, e)) (hS : S i = false)
  (hb : ∀ j ∈ (nth bf i).getD [], S j = true) : AgS (ftOf ops o (pst L st0 i) e) (pst L st0 i) (sub S 0 L st0) := by
 have hhas := p.has i o e hi
 -- all that is done behind i
 have up : ∀ m, AgS (ftOf ops o (pst L st0 i) e) (pst L st0 i) (sub (fun k => Nat.blt k i || (S k && Nat.blt k m)) 0 L st0) := by
  intro m
  induction m with
  | zero =>
   rw [show (fun k => Nat.blt k i || (S k && Nat.blt k 0)) = fun k => Nat.blt k i from by
    funext k
    have : Nat.blt k 0 = false := by
     cases hh : Nat.blt k 0 with
     | false => rfl
     | true => have : k < 0 := Nat.le_of_ble_eq_true hh; omega
    simp [this]]
   exact ⟨fun _ _ => rfl, fun _ _ => rfl⟩
  | succ m ih =>
   by_cases hm : S m = true ∧ i ≤ m
   ·obtain ⟨hm, hle⟩ := hm
    have hne : i ≠ m := fun h => by rw [← h, hS] at hm; cases hm
    have hlt := hn m hm
    obtain ⟨⟨om, em⟩, hLm⟩ : ∃ q, L[m]? = some q := ⟨_, List.getElem?_eq_getElem hlt⟩
    have hInd : Ind (ftOf ops o (pst L st0 i) e) (ftOf ops om (pst L st0 m) em) := by
     rcases p.ind m om em i o e (by omega) hLm hi with h | h
     ·rw [hcl m hm i h] at hS; cases hS
     ·exact h.symm
    have hno : ∀ k, k ≥ m → (Nat.blt k i || (S k && Nat.blt k m)) = false := fun k hk => by
     have h1 : Nat.blt k i = false := by
      cases hh : Nat.blt k i with
      | false => rfl
      | true => have : k < i := Nat.le_of_ble_eq_true hh; omega
     have h2 : Nat.blt k m = false := by
      cases hh : Nat.blt k m with
      | false => rfl
      | true => have : k < m := Nat.le_of_ble_eq_true hh; omega
     simp [h1, h2]
    have := sub_ins (S := fun k => Nat.blt k i || (S k && Nat.blt k m)) (j := m) (o := om) (e := em) (hno m (Nat.le_refl _)) (L := L) (i := 0) (st := st0) (by omega) (by simpa using hLm) (fun k q _ hk hk2 => by rw [Nat.zero_add] at hk hk2; rw [hno k (by omega)] at hk2; cases hk2)
    refine ((ih.plus hInd hhas).same this).same ?_
    rw [sub_ext (S := fun k => Nat.blt k i || (S k && Nat.blt k (m + 1))) (S' := fun k => bif Nat.beq k m then true else Nat.blt k i || (S k && Nat.blt k m)) fun k _ => by
     by_cases e1 : k = m
     ·subst e1
      have : Nat.blt k (k + 1) = true := Nat.ble_eq_true_of_le (Nat.le_refl _)
      rw [Nat.beq_refl, hm, this]; simp
     ·have h1 : Nat.beq k m = false := by
       cases hh : Nat.beq k m with
       | false => rfl
       | true => exact absurd ((beq_iff _ _).1 hh) e1
      have h2 : Nat.blt k (m + 1) = Nat.blt k m := by
       rw [Bool.eq_iff_iff]
       constructor
       ·intro h; have : k < m + 1 := Nat.le_of_ble_eq_true h; exact Nat.ble_eq_true_of_le (show k + 1 ≤ m by omega)
       ·intro h; have : k < m := Nat.le_of_ble_eq_true h; exact Nat.ble_eq_true_of_le (show k + 1 ≤ m + 1 by omega)
      rw [h1, h2]; rfl]
    exact Same.rfl'
   ·rw [sub_ext (S := fun k => Nat.blt k i || (S k && Nat.blt k (m + 1))) (S' := fun k => Nat.blt k i || (S k && Nat.blt k m)) fun k _ => by
     by_cases e1 : k = m
     ·subst e1
      by_cases h1 : S k = true
      ·have h2 : k < i := Nat.lt_of_not_le fun h => hm ⟨h1, h⟩
       have : Nat.blt k i = true := Nat.ble_eq_true_of_le h2
       simp [this]
      ·simp [h1]
     ·have h2 : Nat.blt k (m + 1) = Nat.blt k m := by
       rw [Bool.eq_iff_iff]
       constructor
       ·intro h; have : k < m + 1 := Nat.le_of_ble_eq_true h; exact Nat.ble_eq_true_of_le (show k + 1 ≤ m by omega)
       ·intro h; have : k < m := Nat.le_of_ble_eq_true h; exact Nat.ble_eq_true_of_le (show k + 1 ≤ m + 1 by omega)
      simp only [h2]]
    exact ih
 -- all that is not done ahead of i
 have down : ∀ d m, m + d = i → AgS (ftOf ops o (pst L st0 i) e) (pst L st0 i) (sub (fun k => S k || Nat.blt k m) 0 L st0) := by
  intro d
  induction d with
  | zero =>
   intro m hm
   have hmi : m = i := hm
   subst hmi
   refine (up L.length).same ?_
   rw [sub_ext (S := fun k => S k || Nat.blt k m) (S' := fun k => Nat.blt k m || (S k && Nat.blt k L.length)) fun k _ => by
    by_cases h1 : S k = true
    ·have : Nat.blt k L.length = true := Nat.ble_eq_true_of_le (hn k h1)
     simp [h1, this]
    ·simp [h1]]
   exact Same.rfl'
  | succ d ih =>
   intro m hm
   have ih := ih (m + 1) (by omega)
   by_cases h1 : S m = true
   ·rw [sub_ext (S := fun k => S k || Nat.blt k m) (S' := fun k => S k || Nat.blt k (m + 1)) fun k _ => by
     by_cases e1 : k = m
     ·subst e1; simp [h1]
     ·have h2 : Nat.blt k (m + 1) = Nat.blt k m := by
       rw [Bool.eq_iff_iff]
       constructor
       ·intro h; have : k < m + 1 := Nat.le_of_ble_eq_true h; exact Nat.ble_eq_true_of_le (show k + 1 ≤ m by omega)
       ·intro h; have : k < m := Nat.le_of_ble_eq_true h; exact Nat.ble_eq_true_of_le (show k + 1 ≤ m + 1 by omega)
      simp only [h2]]
    exact ih
   ·have hlt : m < L.length := by
     have : i < L.length := (List.getElem?_eq_some_iff.1 hi).1
     omega
    obtain ⟨⟨om, em⟩, hLm⟩ : ∃ q, L[m]? = some q := ⟨_, List.getElem?_eq_getElem hlt⟩
    have hInd : Ind (ftOf ops o (pst L st0 i) e) (ftOf ops om (pst L st0 m) em) := by
     rcases p.ind i o e m om em (by omega) hi hLm with h | h
     ·exact absurd (hb m h) h1
     ·exact h
    have hmm : Nat.blt m m = false := by
     cases hh : Nat.blt m m with
     | false => rfl
     | true => have : m < m := Nat.le_of_ble_eq_true hh; omega
    have := sub_ins (S := fun k => S k || Nat.blt k m) (j := m) (o := om) (e := em) (by simp [h1, hmm]) (L := L) (i := 0) (st := st0) (by omega) (by simpa using hLm) (fun k q hq hk hk2 => by
     rw [Nat.zero_add] at hk hk2
     have hk3 : Nat.blt k m = false := by
      cases hh : Nat.blt k m with
      | false => rfl
      | true => have : k < m := Nat.le_of_ble_eq_true hh; omega
     have hSk : S k = true := by simpa [hk3] using hk2
     obtain ⟨oq, eq⟩ := q
     rcases p.ind k oq eq m om em hk hq hLm with h | h
     ·exact absurd (hcl k hSk m h) h1
     ·exact h.symm.apart)
    refine AgS.minus ?_ hInd hhas
    refine ih.same (Same.trans ?_ this.symm)
    rw [sub_ext (S := fun k => S k || Nat.blt k (m + 1)) (S' := fun k => bif Nat.beq k m then true else S k || Nat.blt k m) fun k _ => by
     by_cases e1 : k = m
     ·subst e1
      have : Nat.blt k (k + 1) = true := Nat.ble_eq_true_of_le (Nat.le_refl _)
      rw [Nat.beq_refl, this]; simp
     ·have h1 : Nat.beq k m = false := by
       cases hh : Nat.beq k m with
       | false => rfl
       | true => exact absurd ((beq_iff _ _).1 hh) e1
      have h2 : Nat.blt k (m + 1) = Nat.blt k m := by
       rw [Bool.eq_iff_iff]
       constructor
       ·intro h; have : k < m + 1 := Nat.le_of_ble_eq_true h; exact Nat.ble_eq_true_of_le (show k + 1 ≤ m by omega)
       ·intro h; have : k < m := Nat.le_of_ble_eq_true h; exact Nat.ble_eq_true_of_le (show k + 1 ≤ m + 1 by omega)
      rw [h1, h2]; rfl]
    exact Same.rfl'
 have h0 := down i 0 (by omega)
 rw [sub_ext (S := fun k => S k || Nat.blt k 0) (S' := S) fun k _ => by
  have : Nat.blt k 0 = false := by
   cases hh : Nat.blt k 0 with
   | false => rfl
   | true => have : k < 0 := Nat.le_of_ble_eq_true hh; omega
  simp [this]] at h0
 exact h0

theorem clear_bel (h : clear st0 nx ops.length = true) (h20 : 20 ≤ nx) {i : Nat} (hi : i < ops.length) : st0.bel (nx + 16 * i) = true := by
 simp only [clear, Bool.and_eq_true, List.all_eq_true, Bool.or_eq_true] at h
 obtain ⟨⟨h1, h2⟩, h3⟩ := h
 have key : ∀ id, Nat.blt id nx = true ∨ Nat.ble (nx + 16 * ops.length) id = true → outR (nx + 16 * i) id = true := fun id hid => outR_iff.2 (by
  rcases hid with hid | hid
  ·have : id < nx := Nat.le_of_ble_eq_true hid
   omega
  ·have := Nat.le_of_ble_eq_true hid
   omega)
 simp only [ASt.bel, Bool.and_eq_true]
 exact ⟨⟨Nat.ble_eq_true_of_le (by omega), belF_of fun id hid => key id (h1 id hid)⟩, belB_of (fun id hid => key id (h2 id hid)) fun id hid => key id (h3 id hid)⟩
theorem sub_bel {n : Nat} {S : Nat → Bool} : ∀ {L : List (Oper × Eff)} {i : Nat} {st : ASt}, (∀ (k : Nat) (p : Oper × Eff), L[k]? = some p → S (i + k) = true → (∀ i ∈ idsA p.2.val, outR n i = true) ∧ (∀ i ∈ idsTb p.2.ins, outR n i = true) ∧ ∀ i ∈ keysOf p.2.ins, outR n i = true) → st.bel n = true → (sub S i L st).bel n = true := by
 intro L
 induction L with
 | nil => intro i st _ h; exact h
 | cons p L ih =>
  intro i st h hb
  refine ih (fun k q hq hS => h (k + 1) q (by simpa using hq) (by rwa [show i + (k + 1) = i + 1 + k from by omega])) ?_
  cases hS : S i with
  | false => exact hb
  | true =>
   obtain ⟨h1, h2, h3⟩ := h 0 p rfl (by simpa using hS)
   exact bel_app hb h1 h2 h3
theorem sub_box {ids : List Nat} {S : Nat → Bool} : ∀ {L : List (Oper × Eff)} {i : Nat} {st : ASt} {T : List Nat}, tKeys st.tb = T → (∀ (k : Nat) (p : Oper × Eff), L[k]? = some p → noT p.2.ins = true ∧ disj? T p.2.del = true) → boxT ids (sub S i L st).tb = boxT ids st.tb := by
 intro L
 induction L with
 | nil => intro i st T _ _; rfl
 | cons p L ih =>
  intro i st T hT h
  have h' : ∀ (k : Nat) (q : Oper × Eff), L[k]? = some q → noT q.2.ins = true ∧ disj? T q.2.del = true := fun k q hq => h (k + 1) q (by simpa using hq)
  have h0 := h 0 p rfl
  simp only [sub]
  cases hS : S i with
  | false => exact ih hT h'
  | true =>
   have g := app_box (ids := ids) (st := st) (d := p.1.dst) h0.1 (by rw [hT]; exact h0.2)
   exact (ih (by rw [← hT]; exact g.2) h').trans g.1
theorem Path.bel (p : Path P Γ ops nx bf st0 L) {S : Nat → Bool} (hcl : ∀ k, S k = true → ∀ j ∈ (nth bf k).getD [], S j = true) {i : Nat} (hi : i < ops.length) (hS : S i = false) : (sub S 0 L st0).bel (nx + 16 * i) = true := by
 refine sub_bel (fun k q hq hk => ?_) (clear_bel p.clr p.nx20 hi)
 rw [Nat.zero_add] at hk
 obtain ⟨o, e⟩ := q
 have key : ∀ id, id ∈ (ftOf ops o (pst L st0 k) e).v ∨ id ∈ (ftOf ops o (pst L st0 k) e).w → outR (nx + 16 * i) id = true := fun id hid => outR_iff.2 (by
  rcases Nat.lt_or_ge id (nx + 16 * i) with h1 | h1
  ·exact .inl h1
  rcases Nat.lt_or_ge id (nx + 16 * i + 16) with h2 | h2
  ·exfalso
   have hq16 : (id - nx) / 16 = i := by omega
   rcases okId_iff.1 (p.rng k o e hq id hid) with h | h | h | h
   ·omega
   ·omega
   ·rw [hq16] at h; subst h; rw [hS] at hk; cases hk
   ·rw [hq16] at h; rw [hcl k hk i h] at hS; cases hS
  ·exact .inr h2)
 exact ⟨fun id hid => key id (.inl (by simp [ftOf, hid])), fun id hid => key id (.inl (by simp [ftOf, hid])), fun id hid => key id (.inr (by simp [ftOf, hid]))⟩
theorem idsOf_mem {tb : Tb} {i j : Nat} {b : Blk} : ∀ {l : List Nat}, i ∈ l → lk tb i = some b → j ∈ idsB b → j ∈ idsOf tb l := by
 intro l
 induction l with
 | nil => intro h; cases h
 | cons x l ih =>
  intro h hb hj
  simp only [idsOf, List.mem_append]
  rcases List.mem_cons.1 h with rfl | h
  ·left; rw [hb]; exact hj
  ·exact .inr (ih h hb hj)
theorem Path.gstep (p : Path P Γ ops nx bf st0 L) {S : Nat → Bool} (hcl : ∀ k, S k = true → ∀ j ∈ (nth bf k).getD [], S j = true) (hn : ∀ k, S k = true → k < L.length) {i : Nat} {o : Oper} {e : Eff} (hi : L[i]? = some (o, e)) (hS : S i = false)
  (hb : ∀ j ∈ (nth bf i).getD [], S j = true) : gstep P Γ ops i (nx + 16 * i) o (sub S 0 L st0) = Go.Proofs.YtpgglbnagphgoaaGreat.gstep P Γ ops i (nx + 16 * i) o (pst L st0 i) := by
 have hag := p.agree hcl hn hi hS hb
 have hlt : i < ops.length := Nat.lt_of_lt_of_le (List.getElem?_eq_some_iff.1 hi).1 p.len
 have hblt : Nat.blt i i = false := by
  cases hh : Nat.blt i i with
  | false => rfl
  | true => have : i < i := Nat.le_of_ble_eq_true hh; omega
 have hev : ∀ x ∈ looksOf ops o, (sub S 0 L st0).ev x = (pst L st0 i).ev x := fun x hx => by
  cases x with
  | tmp t => exact hag.s t (slotsOf_mem.2 hx)
  | _ => rfl
 have hst : step P Γ (nx + 16 * i) o (sub S 0 L st0) = step P Γ (nx + 16 * i) o (pst L st0 i) := by
  refine step_loc ⟨fun x hx => hev x (List.mem_append.2 (.inl hx)), ?_, ?_, p.bel hcl hlt hS, fun ids => (sub_box rfl fun k q hq => p.noE k q.1 q.2 hq).trans (sub_box (S := fun k => Nat.blt k i) rfl fun k q hq => p.noE k q.1 q.2 hq).symm⟩
  ·intro hlook
   have hsub : ∀ j ∈ opIds (pst L st0 i) o.op.operands.toList, j ∈ opIds (pst L st0 i) (looksOf ops o) := fun j hj => by
    unfold looksOf
    generalize (match o.guard with
     | some (j, _) => (match (nth ops j).bind (·.dst) with | some d => [Operand.tmp d] | none => [])
     | none => []) = m
    generalize o.op.operands.toList = l at hj ⊢
    induction l with
    | nil => cases hj
    | cons x l ih =>
     simp only [opIds, List.cons_append, List.mem_append] at hj ⊢
     exact hj.imp id ih
   have hm : ∀ j, j ∈ deepIds (depO o.op) (pst L st0 i).tb (opIds (pst L st0 i) (looksOf ops o)) → _ := fun j hj => hag.m j (by simp [ftOf, hlook, hj])
   have hdep : depO o.op = 0 ∨ depO o.op = 2 := by cases o.op <;> first | exact .inl rfl | exact .inr rfl
   rcases hdep with hdep | hdep
   ·rw [hdep] at hm ⊢
    intro j hj
    exact hm j (hsub j hj)
   ·rw [hdep] at hm ⊢
    intro j hj
    have hj := hsub j hj
    refine ⟨hm j (by simp [deepIds, hj]), fun b hb => fun k hk => ?_⟩
    have hk1 := idsOf_mem hj hb hk
    refine ⟨hm k (by simp [deepIds, hk1]), fun b2 hb2 => fun k2 hk2 => ?_⟩
    have hk3 := idsOf_mem hk1 hb2 hk2
    exact hm k2 (by simp [deepIds, hk3])
  ·exact p.bel (S := fun k => Nat.blt k i) (fun k hk j hj => by
    have hk : k < i := Nat.le_of_ble_eq_true hk
    have := p.lt k j hj
    exact Nat.ble_eq_true_of_le (show j + 1 ≤ i by omega)) hlt hblt
 unfold Go.Proofs.YtpgglbnagphgoaaGreat.gstep
 cases hg : o.guard with
 | none => simp only; rw [hst]
 | some jw =>
  obtain ⟨j, wt⟩ := jw
  simp only
  have hlk : ((nth ops j).bind (·.dst)).bind (lk (sub S 0 L st0).fr) = ((nth ops j).bind (·.dst)).bind (lk (pst L st0 i).fr) := by
   cases hd : (nth ops j).bind (·.dst) with
   | none => rfl
   | some d =>
    refine hag.s d (slotsOf_mem.2 ?_)
    unfold looksOf
    rw [hg]
    simp [hd]
  rw [hlk, hst]
end
end Go.Proofs.YtpgglbnagphgoaaGreat
