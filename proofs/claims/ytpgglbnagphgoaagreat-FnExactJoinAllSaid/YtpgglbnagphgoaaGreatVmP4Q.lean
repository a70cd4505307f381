/- A small logic of states, part 4: what an operation makes of a state, and that it is so. It is of no program. -/
import Derived.Test.YtpgglbnagphgoaaGreatVmP3Q
import Derived.ProofKit
import Derived.OpenShut
import Derived.Deep.Slices
import Derived.ChangeOld
import Derived.Carry
set_option linter.unusedVariables false
set_option linter.unusedSimpArgs false
/- Regions of any order: what is asked in the text's order is enough. No program is in sight. -/
namespace Go.Proofs.YtpgglbnagphgoaaGreat
open Go.RowKit
open SR (opt)

theorem calls_ex {P : Program} {f : FuncId} {args : Array Value} {w : World} {R : Ending → World → Prop} (h : Calls P f args w R) : ∃ e w', R e w' := by
  obtain ⟨e, w', _, h1, _⟩ := h []
  exact ⟨e, w', h1⟩
theorem wp_ex {P : Program} {o : Oper} {a : Act} {w : World} {K : Act → World → Prop} (h : o.wp P a w K fun _ _ _ => False) : ∃ a' w', K a' w' := by
  unfold Oper.wp at h
  generalize (execOp a.eval o).run P w = r at h
  cases r with
  | ok n w' =>
    cases n <;> simp only [Oper.upon] at h <;> first
      | exact ⟨_, _, h⟩
      | (obtain ⟨e, w2, h2⟩ := calls_ex h
         cases e with
         | returned v => exact ⟨_, _, h2⟩
         | panicked => exact h2.elim
         | outgrown => obtain ⟨_, _, h3⟩ := h2; exact h3.elim)
      | (obtain ⟨v, w2, h2, _⟩ := h (Frame.enter P 0 #[] .normal) []
         exact ⟨_, _, h2⟩)
  | halt x w' => cases x <;> simp only [Oper.upon] at h

theorem befL_pre : ∀ {l : List Oper} {acc : List (List Nat)} {i : Nat}, i < acc.length → nth (befL l acc) i = nth acc i := by
  intro l
  induction l with
  | nil => intro acc i _; rfl
  | cons o l ih =>
    intro acc i hi
    simp only [befL]
    rw [ih (by simp; omega), nth_eq, nth_eq, List.getElem?_append_left hi]
theorem mem_nub {j : Nat} : ∀ {l : List Nat}, j ∈ nub l → j ∈ l := by
  intro l
  induction l with
  | nil => intro h; exact h
  | cons i l ih =>
    intro h
    simp only [nub] at h
    cases hm : mem? l i with
    | true => rw [hm] at h; exact List.mem_cons_of_mem _ (ih h)
    | false =>
      rw [hm] at h
      simp only [cond_false, List.mem_cons] at h
      exact List.mem_cons.2 (h.imp id ih)
theorem befL_at : ∀ {l : List Oper} {acc : List (List Nat)} {k : Nat} {o : Oper}, l[k]? = some o → ∀ j ∈ (nth (befL l acc) (acc.length + k)).getD [], ∃ e ∈ o.after.toList, Region.binds .any e = true ∧ (j = e.on ∨ (e.on < acc.length + k ∧ j ∈ (nth (befL l acc) e.on).getD [])) := by
  intro l
  induction l with
  | nil => intro acc k o h; simp at h
  | cons p l ih =>
    intro acc k o h j hj
    simp only [befL] at hj ⊢
    cases k with
    | zero =>
      simp only [List.getElem?_cons_zero, Option.some.injEq] at h
      subst h
      rw [Nat.add_zero, befL_pre (by simp), nth_eq, List.getElem?_append_right (Nat.le_refl _)] at hj
      simp only [Nat.sub_self, List.getElem?_cons_zero, Option.getD_some] at hj
      obtain ⟨e, he, hj⟩ := List.mem_flatMap.1 (mem_nub hj)
      cases hb : Region.binds .any e with
      | false => rw [hb] at hj; cases hj
      | true =>
        rw [hb] at hj
        simp only [cond_true, List.mem_cons] at hj
        refine ⟨e, he, hb, hj.imp id fun hj => ?_⟩
        have hlt : e.on < acc.length := by
          rcases Nat.lt_or_ge e.on acc.length with h1 | h1
          · exact h1
          · rw [nth_eq, List.getElem?_eq_none h1] at hj
            cases hj
        refine ⟨by omega, ?_⟩
        rw [befL_pre (by simp; omega), nth_eq, List.getElem?_append_left hlt, ← nth_eq]
        exact hj
    | succ k =>
      have := ih (acc := acc ++ [nub (p.after.toList.flatMap fun e => bif Region.binds .any e then e.on :: (nth acc e.on).getD [] else [])]) (k := k) (o := o) (by simpa using h) j (by simpa [Nat.add_assoc, Nat.add_comm 1 k] using hj)
      simpa [Nat.add_assoc, Nat.add_comm 1 k] using this
theorem bef_at {l : List Oper} {k j : Nat} {o : Oper} (h : l[k]? = some o) (hj : j ∈ (nth (befL l []) k).getD []) : ∃ e ∈ o.after.toList, Region.binds .any e = true ∧ (j = e.on ∨ (e.on < k ∧ j ∈ (nth (befL l []) e.on).getD [])) := by
  have := befL_at (acc := []) h j (by simpa using hj)
  simpa using this
theorem befL_len : ∀ {l : List Oper} {acc : List (List Nat)}, (befL l acc).length = acc.length + l.length := by
  intro l
  induction l with
  | nil => intro acc; rfl
  | cons o l ih => intro acc; simp only [befL]; rw [ih]; simp; omega
theorem befOk_at : ∀ {l : List Oper} {i k : Nat} {o : Oper}, befOk l i = true → l[k]? = some o → ∀ e ∈ o.after.toList, Region.binds .any e = true → e.on < i + k := by
  intro l
  induction l with
  | nil => intro i k o _ h; simp at h
  | cons p l ih =>
    intro i k o h hk e he hb
    simp only [befOk, Bool.and_eq_true] at h
    obtain ⟨⟨h1, _⟩, h3⟩ := h
    cases k with
    | zero =>
      simp only [List.getElem?_cons_zero, Option.some.injEq] at hk
      subst hk
      have := (List.all_eq_true.1 h1) e he
      rw [hb] at this
      simp only [Bool.not_true, Bool.false_or] at this
      exact Nat.le_of_ble_eq_true this
    | succ k =>
      have := ih h3 (by simpa using hk) e he hb
      omega
theorem bef_lt {l : List Oper} (h : befOk l 0 = true) : ∀ (k j : Nat), j ∈ (nth (befL l []) k).getD [] → j < k := by
  intro k
  induction k using Nat.strongRecOn with
  | _ k ih =>
    intro j hj
    rcases Nat.lt_or_ge k l.length with hk | hk
    · obtain ⟨e, he, hb, h1⟩ := bef_at (List.getElem?_eq_getElem hk) hj
      have := befOk_at h (List.getElem?_eq_getElem hk) e he hb
      rcases h1 with rfl | ⟨h2, h3⟩
      · omega
      · have := ih e.on h2 j h3
        omega
    · rw [nth_eq, List.getElem?_eq_none (by rw [befL_len]; simpa using hk)] at hj
      cases hj

section
variable {P : Program} {Γ : Cfg} {W0 w : World} {E0 E : Env} {nl N : Nat} {st : ASt} {a : Act}

def Run (P : Program) (Γ : Cfg) (ops : List Oper) (nx : Nat) (bf : List (List Nat)) : List (Oper × Eff) → Nat → ASt → List (Nat × Ft) → Prop
  | [], _, _, _ => True
  | (o, e) :: L, i, st, log => ((gstep P Γ ops i (nx + 16 * i) o st).pre ∧ (gstep P Γ ops i (nx + 16 * i) o st).outs e ∧ chkD Γ ops nx ops.length bf i o st e log = true) ∧ Run P Γ ops nx bf L (i + 1) (e.app st o.dst) ((i, ftOf ops o st e) :: log)
def stA : List (Oper × Eff) → ASt → ASt
  | [], st => st
  | p :: L, st => stA L (p.2.app st p.1.dst)
theorem run_ex (hΓ : ∀ f C, Γ.con f = some C → ConOK P f C) (ops : Array Oper) {nx : Nat} {bf : List (List Nat)} {K : ASt → Prop} : ∀ (l : List Oper) (i : Nat) (st : ASt) (log : List (Nat × Ft)) (E : Env) (a : Act) (w : World), (∀ o ∈ l, ∀ d, o.dst = some d → d < N) → Sat W0 E0 nl N st E a w → runD P Γ ops.toList nx bf l i st log K →
    ∃ L : List (Oper × Eff), L.map (·.1) = l ∧ Run P Γ ops.toList nx bf L i st log ∧ K { stA L st with nx := nx + 16 * (i + l.length) } := by
  intro l
  induction l with
  | nil => intro i st log E a w _ _ h; exact ⟨[], rfl, trivial, h⟩
  | cons o l ih =>
    intro i st log E a w hd hs h
    simp only [runD] at h
    obtain ⟨hp, hr⟩ := (SR.cps_iff _ _).1 h
    have hg := gstep_ok hs hΓ (hd o (by simp)) ops hp (fun _ _ _ => False)
    have hex : ∃ a' w', After W0 E0 nl N st o (gstep P Γ ops.toList i (nx + 16 * i) o st) a' w' := by
      split at hg
      · exact wp_ex hg
      · exact ⟨_, _, hg⟩
    obtain ⟨a', w', e, E', h1, h2⟩ := hex
    have hk := hr e h1
    cases hc : chkD Γ ops.toList nx ops.toList.length bf i o st e log with
    | false => rw [hc] at hk; exact hk.elim
    | true =>
      rw [hc] at hk
      obtain ⟨L, g1, g2, g3⟩ := ih (i + 1) _ _ E' a' w' (fun o ho => hd o (by simp [ho])) h2 hk
      refine ⟨(o, e) :: L, by simp [g1], ⟨⟨hp, h1, hc⟩, g2⟩, ?_⟩
      rw [show i + (o :: l).length = i + 1 + l.length from by simp; omega]
      exact g3
theorem indL_at {b : List Nat} {f : Ft} : ∀ {log : List (Nat × Ft)} {j : Nat} {g : Ft}, indL b f log = true → (j, g) ∈ log → j ∈ b ∨ indep f g = true := by
  intro log
  induction log with
  | nil => intro j g _ h; cases h
  | cons p log ih =>
    obtain ⟨j', g'⟩ := p
    intro j g h hm
    simp only [indL, Bool.and_eq_true, Bool.or_eq_true, mem?_iff] at h
    rcases List.mem_cons.1 hm with e | hm
    · injection e with e1 e2
      subst e1 e2
      exact h.1
    · exact ih h.2 hm
theorem run_at {ops : List Oper} {nx : Nat} {bf : List (List Nat)} : ∀ {L : List (Oper × Eff)} {i : Nat} {st : ASt} {log : List (Nat × Ft)} {k : Nat} {o : Oper} {e : Eff}, Run P Γ ops nx bf L i st log → L[k]? = some (o, e) →
    (gstep P Γ ops (i + k) (nx + 16 * (i + k)) o (stA (L.take k) st)).pre ∧ (gstep P Γ ops (i + k) (nx + 16 * (i + k)) o (stA (L.take k) st)).outs e ∧
      ∃ log', chkD Γ ops nx ops.length bf (i + k) o (stA (L.take k) st) e log' = true ∧ (∀ p ∈ log, p ∈ log') ∧ ∀ (j : Nat) (o' : Oper) (e' : Eff), j < k → L[j]? = some (o', e') → (i + j, ftOf ops o' (stA (L.take j) st) e') ∈ log' := by
  intro L
  induction L with
  | nil => intro i st log k o e _ h; simp at h
  | cons p L ih =>
    obtain ⟨o1, e1⟩ := p
    intro i st log k o e h hk
    obtain ⟨⟨h1, h2, h3⟩, h4⟩ := h
    cases k with
    | zero =>
      simp only [List.getElem?_cons_zero, Option.some.injEq, Prod.mk.injEq] at hk
      obtain ⟨rfl, rfl⟩ := hk
      exact ⟨h1, h2, log, h3, fun p hp => hp, fun j _ _ hj => absurd hj (Nat.not_lt_zero _)⟩
    | succ k =>
      obtain ⟨g1, g2, log', g3, g4, g5⟩ := ih h4 (by simpa using hk)
      rw [show i + 1 + k = i + (k + 1) from by omega] at g1 g2 g3
      refine ⟨g1, g2, log', g3, fun p hp => g4 p (List.mem_cons_of_mem _ hp), fun j o' e' hj hL => ?_⟩
      cases j with
      | zero =>
        simp only [List.getElem?_cons_zero, Option.some.injEq, Prod.mk.injEq] at hL
        obtain ⟨rfl, rfl⟩ := hL
        exact g4 _ List.mem_cons_self
      | succ j =>
        have := g5 j o' e' (by omega) (by simpa using hL)
        rw [show i + 1 + j = i + (j + 1) from by omega] at this
        exact this
theorem sub_take {S : Nat → Bool} : ∀ {L : List (Oper × Eff)} {i k : Nat} {st : ASt}, (∀ j, i ≤ j → S j = Nat.blt j (i + k)) → sub S i L st = stA (L.take k) st := by
  intro L
  induction L with
  | nil => intro i k st _; simp [sub, stA]
  | cons p L ih =>
    intro i k st h
    simp only [sub]
    cases k with
    | zero =>
      have h0 : S i = false := by
        rw [h i (Nat.le_refl _)]
        cases hh : Nat.blt i (i + 0) with
        | false => rfl
        | true => have : i < i + 0 := Nat.le_of_ble_eq_true hh; omega
      rw [h0]
      simp only [cond_false, List.take_zero, stA]
      have := ih (i := i + 1) (k := 0) (st := st) fun j hj => by
        rw [h j (by omega)]
        rw [Bool.eq_iff_iff]
        constructor
        · intro hh; have : j < i + 0 := Nat.le_of_ble_eq_true hh; omega
        · intro hh; have : j < i + 1 + 0 := Nat.le_of_ble_eq_true hh; omega
      simpa [stA] using this
    | succ k =>
      have h0 : S i = true := by rw [h i (Nat.le_refl _)]; exact Nat.ble_eq_true_of_le (show i + 1 ≤ i + (k + 1) by omega)
      rw [h0]
      simp only [cond_true, List.take_succ_cons, stA]
      exact ih fun j hj => by rw [h j (by omega), show i + 1 + k = i + (k + 1) from by omega]
theorem pst_eq {L : List (Oper × Eff)} {st0 : ASt} {i : Nat} : pst L st0 i = stA (L.take i) st0 := sub_take fun j _ => by rw [Nat.zero_add]
theorem aft_at {i : Nat} : ∀ {l : List (List Nat)} {n k : Nat}, aft? i l n = true → k < l.length → i < n + k → i ∈ (nth l k).getD [] := by
  intro l
  induction l with
  | nil => intro n k _ h; simp at h
  | cons b l ih =>
    intro n k h hk hi
    simp only [aft?, Bool.and_eq_true, Bool.or_eq_true, Bool.not_eq_true'] at h
    cases k with
    | zero =>
      rcases h.1 with h1 | h1
      · have : Nat.blt i n = true := Nat.ble_eq_true_of_le (show i + 1 ≤ n by omega)
        rw [h1] at this
        cases this
      · exact (mem?_iff _ _).1 h1
    | succ k => exact ih h.2 (by simpa using hk) (by omega)
theorem stA_append : ∀ {L L' : List (Oper × Eff)} {st : ASt}, stA (L ++ L') st = stA L' (stA L st) := by
  intro L
  induction L with
  | nil => intro L' st; rfl
  | cons p L ih => intro L' st; exact ih
theorem run_cut {ops : List Oper} {nx : Nat} {bf : List (List Nat)} {K : ASt → Prop} : ∀ (i : Nat) (l : List Oper) (L : List (Oper × Eff)) (j : Nat) (st : ASt) (log : List (Nat × Ft)) {o : Oper} {e : Eff}, runD P Γ ops nx bf l j st log K → Run P Γ ops nx bf L j st log → L.map (·.1) = l → l[i]? = some o → (gstep P Γ ops (j + i) (nx + 16 * (j + i)) o (stA (L.take i) st)).outs e →
    ∃ log', runD P Γ ops nx bf (l.drop (i + 1)) (j + i + 1) (e.app (stA (L.take i) st) o.dst) log' K ∧ ∀ L2, Run P Γ ops nx bf L2 (j + i + 1) (e.app (stA (L.take i) st) o.dst) log' → Run P Γ ops nx bf (L.take i ++ (o, e) :: L2) j st log := by
  intro i
  induction i with
  | zero =>
    intro l L j st log o e hR hL hm hl ho
    cases l with
    | nil => simp at hl
    | cons o1 l =>
      simp only [List.getElem?_cons_zero, Option.some.injEq] at hl
      subst hl
      simp only [runD] at hR
      obtain ⟨hp, hr⟩ := (SR.cps_iff _ _).1 hR
      have ho' : (gstep P Γ ops j (nx + 16 * j) o1 st).outs e := by simpa [stA] using ho
      have hk := hr e ho'
      cases hc : chkD Γ ops nx ops.length bf j o1 st e log with
      | false => rw [hc] at hk; exact hk.elim
      | true =>
        rw [hc] at hk
        refine ⟨(j, ftOf ops o1 st e) :: log, by simpa [stA] using hk, fun L2 h2 => ?_⟩
        have h2' : Run P Γ ops nx bf L2 (j + 1) (e.app st o1.dst) ((j, ftOf ops o1 st e) :: log) := by simpa [stA] using h2
        exact ⟨⟨hp, ho', hc⟩, h2'⟩
  | succ i ih =>
    intro l L j st log o e hR hL hm hl ho
    cases L with
    | nil => simp at hm; subst hm; simp at hl
    | cons q L =>
      obtain ⟨o1, e1⟩ := q
      cases l with
      | nil => simp at hm
      | cons o2 l =>
        simp only [List.map_cons, List.cons.injEq] at hm
        obtain ⟨rfl, hm⟩ := hm
        obtain ⟨⟨g1, g2, g3⟩, g4⟩ := hL
        simp only [runD] at hR
        obtain ⟨hp, hr⟩ := (SR.cps_iff _ _).1 hR
        have hk := hr e1 g2
        rw [g3] at hk
        have e0 : j + 1 + i = j + (i + 1) := by omega
        obtain ⟨log', k1, k2⟩ := ih l L (j + 1) _ _ (o := o) (e := e) hk g4 hm (by simpa using hl) (by rw [e0]; exact ho)
        rw [e0] at k1 k2
        exact ⟨log', k1, fun L2 h2 => ⟨⟨g1, g2, g3⟩, k2 L2 h2⟩⟩
theorem stA_tKeys : ∀ {L : List (Oper × Eff)} {st : ASt}, (∀ (k : Nat) (p : Oper × Eff), L[k]? = some p → noT p.2.ins = true ∧ disj? (tKeys (stA (L.take k) st).tb) p.2.del = true) → tKeys (stA L st).tb = tKeys st.tb := by
  intro L
  induction L with
  | nil => intro st _; rfl
  | cons p L ih =>
    intro st h
    have h0 := h 0 p rfl
    have g := (app_box (ids := []) (st := st) (d := p.1.dst) h0.1 (by simpa [stA] using h0.2)).2
    rw [← g]
    exact ih fun k q hq => by
      have := h (k + 1) q (by simpa using hq)
      simpa [stA] using this
theorem run_path {ops : List Oper} {nx : Nat} {L : List (Oper × Eff)} (hf : ∀ (i : Nat) (q : Oper × Eff), L[i]? = some q → ops[i]? = some q.1) (hl : L.length ≤ ops.length) (h20 : 20 ≤ nx) (hbf : befOk ops 0 = true) (hc : clear st nx ops.length = true) (h : Run P Γ ops nx (befL ops []) L 0 st []) : Path P Γ ops nx (befL ops []) st L := by
  have hchk : ∀ (i : Nat) (o : Oper) (e : Eff), L[i]? = some (o, e) → ∃ log', chkD Γ ops nx ops.length (befL ops []) i o (pst L st i) e log' = true ∧ ∀ (j : Nat) (o' : Oper) (e' : Eff), j < i → L[j]? = some (o', e') → (j, ftOf ops o' (pst L st j) e') ∈ log' := fun i o e hi => by
    obtain ⟨_, _, log', h1, _, h2⟩ := run_at h hi
    rw [Nat.zero_add] at h1
    refine ⟨log', by rw [pst_eq]; exact h1, fun j o' e' hj hL => ?_⟩
    have := h2 j o' e' hj hL
    rw [Nat.zero_add] at this
    rw [pst_eq]
    exact this
  have hall : ∀ (i : Nat) (o : Oper) (e : Eff), L[i]? = some (o, e) → noT e.ins = true ∧ disj? (tKeys (pst L st i).tb) e.del = true := fun i o e hi => by
    obtain ⟨log', hk, _⟩ := hchk i o e hi
    simp only [chkD, Bool.and_eq_true] at hk
    obtain ⟨⟨⟨⟨⟨_, _⟩, _⟩, k4⟩, _⟩, _⟩ := hk
    exact k4
  have hkeys : ∀ i, tKeys (pst L st i).tb = tKeys st.tb := fun i => by
    rw [pst_eq]
    refine stA_tKeys fun k p hp => ?_
    have hki : k < i := by have := (List.getElem?_eq_some_iff.1 hp).1; rw [List.length_take] at this; omega
    rw [List.getElem?_take, if_pos hki] at hp
    have := hall k p.1 p.2 hp
    rw [pst_eq] at this
    rw [List.take_take, Nat.min_eq_left (by omega)]
    exact this
  refine ⟨hl, fun i o e hi => hf i _ hi, bef_lt hbf, h20, hc, fun i o e hi => ?_, fun i o e hi => ?_, fun i o e hi id hid => ?_, fun i o e hi t ht => ?_, fun i o e hi => ?_, fun i o e j o' e' hj hi hL => ?_⟩
  · obtain ⟨h1, h2, _⟩ := run_at h hi
    rw [Nat.zero_add] at h1 h2
    rw [pst_eq]
    exact ⟨h1, h2⟩
  all_goals
    obtain ⟨log', hk, hlog⟩ := hchk i o e hi
    simp only [chkD, Bool.and_eq_true, List.all_eq_true] at hk
    obtain ⟨⟨⟨⟨⟨k1, k2⟩, k3⟩, k4⟩, k5⟩, k6⟩ := hk
  · rcases Bool.or_eq_true_iff.1 k5 with h1 | h1
    · exact .inl h1
    · exact .inr fun k hk hk2 => aft_at h1 (by rw [befL_len]; simpa using hk2) (by omega)
  · exact hid.elim (k1 id) (k2 id)
  · exact k3 t ht
  · exact ⟨k4.1, by rw [← hkeys i]; exact k4.2⟩
  · exact (indL_at k6 (hlog j o' e' hj hL)).imp id indep_iff

def left (S : Nat → Bool) : Nat → Nat
  | 0 => 0
  | m + 1 => left S m + bif S m then 0 else 1
theorem left_zero {S : Nat → Bool} : ∀ {m : Nat}, left S m = 0 → ∀ k, k < m → S k = true := by
  intro m
  induction m with
  | zero => intro _ k hk; omega
  | succ m ih =>
    intro h k hk
    simp only [left] at h
    cases hS : S m with
    | false => rw [hS] at h; simp at h
    | true =>
      by_cases e : k = m
      · subst e; exact hS
      · exact ih (by omega) k (by omega)
theorem left_ext {S S' : Nat → Bool} : ∀ {m : Nat}, (∀ k, k < m → S k = S' k) → left S m = left S' m := by
  intro m
  induction m with
  | zero => intro _; rfl
  | succ m ih => intro h; simp only [left]; rw [h m (by omega), ih fun k hk => h k (by omega)]
theorem left_set {S S' : Nat → Bool} {i : Nat} (hi : S i = false) (h : ∀ k, S' k = if k = i then true else S k) : ∀ {m : Nat}, i < m → left S' m + 1 = left S m := by
  intro m
  induction m with
  | zero => intro hm; omega
  | succ m ih =>
    intro hm
    simp only [left]
    by_cases e : m = i
    · subst e
      rw [h m, if_pos rfl, hi, left_ext (S := S') (S' := S) fun k hk => by rw [h k, if_neg (by omega)]]
      rfl
    · rw [h m, if_neg e]
      have := ih (by omega)
      omega
theorem ready_iff {ops : Array Oper} {listed : Array Bool} (hsz : listed.size = ops.size) {i : Nat} : i ∈ Region.ready .any ops listed ↔ ∃ o, ops[i]? = some o ∧ listed.getD i false = false ∧ ∀ e ∈ o.after.toList, Region.binds .any e = true → listed.getD e.on false = true := by
  simp only [Region.ready, List.mem_filter, List.mem_range, Bool.and_eq_true, Bool.not_eq_true']
  constructor
  · rintro ⟨h1, h2, h3⟩
    refine ⟨ops[i], Array.getElem?_eq_getElem h1, ?_, ?_⟩
    · rw [Array.getD, dif_pos (by rw [hsz]; exact h1)] at h2 ⊢
      exact h2
    · rw [Array.getElem?_eq_getElem h1] at h3
      simp only [Option.map_some, Option.getD_some] at h3
      intro e he hb
      have := (Array.all_eq_true'.1 h3) e (by simpa using he)
      simpa [hb] using this
  · rintro ⟨o, h1, h2, h3⟩
    have hlt : i < ops.size := (Array.getElem?_eq_some_iff.1 h1).1
    refine ⟨hlt, ?_, ?_⟩
    · rw [Array.getD, dif_pos (by rw [hsz]; exact hlt)] at h2 ⊢
      exact h2
    · rw [h1]
      simp only [Option.map_some, Option.getD_some]
      refine Array.all_eq_true'.2 fun e he => ?_
      cases hb : Region.binds .any e with
      | false => rfl
      | true => simpa using h3 e (by simpa using he) hb
theorem sub_none {S : Nat → Bool} : ∀ {L : List (Oper × Eff)} {i : Nat} {st : ASt}, (∀ k, k < L.length → S (i + k) = false) → sub S i L st = st := by
  intro L
  induction L with
  | nil => intro i st _; rfl
  | cons p L ih =>
    intro i st h
    have h0 := h 0 (by simp)
    rw [Nat.add_zero] at h0
    simp only [sub]
    rw [h0]
    exact ih fun k hk => by rw [show i + 1 + k = i + (k + 1) from by omega]; exact h (k + 1) (by simpa using hk)
theorem sub_agree {S : Nat → Bool} : ∀ {L L' : List (Oper × Eff)} {i : Nat} {st : ASt}, (∀ k, S (i + k) = true → L[k]? = L'[k]?) → sub S i L st = sub S i L' st := by
  intro L
  induction L with
  | nil =>
    intro L' i st h
    rw [sub_none (L := L')]
    · rfl
    · intro k hk
      cases hS : S (i + k) with
      | false => rfl
      | true =>
        have := h k hS
        rw [List.getElem?_eq_getElem hk] at this
        simp at this
  | cons p L ih =>
    intro L' i st h
    cases L' with
    | nil =>
      rw [sub_none (L := p :: L)]
      · rfl
      · intro k hk
        cases hS : S (i + k) with
        | false => rfl
        | true =>
          have := h k hS
          rw [List.getElem?_eq_getElem hk] at this
          simp at this
    | cons p' L' =>
      simp only [sub]
      have e : (bif S i then p.2.app st p.1.dst else st) = (bif S i then p'.2.app st p'.1.dst else st) := by
        cases hS : S i with
        | false => rfl
        | true =>
          have := h 0 hS
          simp only [List.getElem?_cons_zero, Option.some.injEq] at this
          rw [this]
      rw [e]
      exact ih fun k hk => by
        have := h (k + 1) (by rw [show i + (k + 1) = i + 1 + k from by omega]; exact hk)
        simpa using this
theorem one_ok (hΓ : ∀ f C, Γ.con f = some C → ConOK P f C) (ops : Array Oper) (hdst : ∀ o ∈ ops.toList, ∀ d, o.dst = some d → d < N) {nx : Nat} {st0 : ASt} {L : List (Oper × Eff)}
    (p : Path P Γ ops.toList nx (befL ops.toList []) st0 L) {S : Nat → Bool} (hcl : ∀ k, S k = true → ∀ j ∈ (nth (befL ops.toList []) k).getD [], S j = true) (hn : ∀ k, S k = true → k < L.length) {i : Nat} {o : Oper} {e : Eff} (hi : L[i]? = some (o, e)) (hS : S i = false)
    (hb : ∀ j ∈ (nth (befL ops.toList []) i).getD [], S j = true) {E : Env} {a : Act} {w : World} (hs : Sat W0 E0 nl N (sub S 0 L st0) E a w) :
    ∃ e' E' a' w', (gstep P Γ ops.toList i (nx + 16 * i) o (pst L st0 i)).outs e' ∧ Sat W0 E0 nl N (e'.app (sub S 0 L st0) o.dst) E' a' w' := by
  have hgs := p.gstep hcl hn hi hS hb
  have hp := (p.pre i o e hi).1
  rw [← hgs] at hp
  have hg := gstep_ok hs hΓ (hdst o (List.mem_of_getElem? (p.fst i o e hi))) ops hp (fun _ _ _ => False)
  have hex : ∃ a' w', After W0 E0 nl N (sub S 0 L st0) o (gstep P Γ ops.toList i (nx + 16 * i) o (sub S 0 L st0)) a' w' := by
    split at hg
    · exact wp_ex hg
    · exact ⟨_, _, hg⟩
  obtain ⟨a', w', e', E', g1, g2⟩ := hex
  rw [hgs] at g1
  exact ⟨e', E', a', w', g1, g2⟩
theorem ins_same {ops : List Oper} {nx : Nat} {bf : List (List Nat)} {st0 : ASt} {L : List (Oper × Eff)} (p : Path P Γ ops nx bf st0 L) {S S' : Nat → Bool} (hcl : ∀ k, S k = true → ∀ j ∈ (nth bf k).getD [], S j = true) {i : Nat} {o : Oper} {e : Eff} (hi : L[i]? = some (o, e)) (hS : S i = false)
    (hset : ∀ k, S' k = if k = i then true else S k) : Same (e.app (sub S 0 L st0) o.dst) (sub S' 0 L st0) := by
  have hins := sub_ins (S := S) (j := i) (o := o) (e := e) hS (L := L) (i := 0) (st := st0) (Nat.zero_le _) (by simpa using hi) fun k q hq hk hk2 => by
    rw [Nat.zero_add] at hk hk2
    obtain ⟨oq, eq⟩ := q
    rcases p.ind k oq eq i o e hk hq hi with h | h
    · have := hcl k hk2 i h
      rw [hS] at this
      cases this
    · exact h.symm.apart
  rw [sub_ext (S := S') (S' := fun k => bif Nat.beq k i then true else S k) fun k _ => by
    rw [hset]
    by_cases e1 : k = i
    · subst e1; rw [Nat.beq_refl]; simp
    · have : Nat.beq k i = false := by
        cases hh : Nat.beq k i with
        | false => rfl
        | true => exact absurd ((beq_iff _ _).1 hh) e1
      rw [this, if_neg e1]; rfl]
  exact hins
theorem fill_ok (hΓ : ∀ f C, Γ.con f = some C → ConOK P f C) (hD : ∀ f C, Γ.con f = some C → C.det = true → ∀ x, (C.out x).Det) (ops : Array Oper) (hdst : ∀ o ∈ ops.toList, ∀ d, o.dst = some d → d < N) {nx : Nat} {st0 : ASt} {L : List (Oper × Eff)}
    (p : Path P Γ ops.toList nx (befL ops.toList []) st0 L) {S : Nat → Bool} (hcl : ∀ k, S k = true → ∀ j ∈ (nth (befL ops.toList []) k).getD [], S j = true) (hn : ∀ k, S k = true → k < L.length) {i : Nat} (hi : i < L.length)
    (hdet : ∀ (k : Nat) (o : Oper) (e : Eff), k < i → L[k]? = some (o, e) → S k = false → detO Γ o (pst L st0 k) = true) :
    ∀ m, m ≤ i → ∀ (E : Env) (a : Act) (w : World), Sat W0 E0 nl N (sub S 0 L st0) E a w → ∃ E' a' w', Sat W0 E0 nl N (sub (fun k => S k || Nat.blt k m) 0 L st0) E' a' w' := by
  intro m
  induction m with
  | zero =>
    intro _ E a w hs
    refine ⟨E, a, w, ?_⟩
    rw [sub_ext (S := fun k => S k || Nat.blt k 0) (S' := S) fun k _ => by
      have : Nat.blt k 0 = false := by
        cases hh : Nat.blt k 0 with
        | false => rfl
        | true => have : k < 0 := Nat.le_of_ble_eq_true hh; omega
      simp [this]]
    exact hs
  | succ m ih =>
    intro hm E a w hs
    obtain ⟨E1, a1, w1, h1⟩ := ih (by omega) E a w hs
    have hmm : Nat.blt m m = false := by
      cases hh : Nat.blt m m with
      | false => rfl
      | true => have : m < m := Nat.le_of_ble_eq_true hh; omega
    have hlt : ∀ k, Nat.blt k (m + 1) = true ↔ k = m ∨ Nat.blt k m = true := fun k => by
      constructor
      · intro h
        have : k < m + 1 := Nat.le_of_ble_eq_true h
        by_cases e1 : k = m
        · exact .inl e1
        · exact .inr (Nat.ble_eq_true_of_le (show k + 1 ≤ m by omega))
      · rintro (h | h)
        · subst h; exact Nat.ble_eq_true_of_le (Nat.le_refl _)
        · have : k < m := Nat.le_of_ble_eq_true h
          exact Nat.ble_eq_true_of_le (show k + 1 ≤ m + 1 by omega)
    cases hSm : S m with
    | true =>
      refine ⟨E1, a1, w1, ?_⟩
      rw [sub_ext (S := fun k => S k || Nat.blt k (m + 1)) (S' := fun k => S k || Nat.blt k m) fun k _ => by
        rw [Bool.eq_iff_iff]
        simp only [Bool.or_eq_true, hlt]
        constructor
        · rintro (h | h | h)
          · exact .inl h
          · subst h; exact .inl hSm
          · exact .inr h
        · rintro (h | h)
          · exact .inl h
          · exact .inr (.inr h)]
      exact h1
    | false =>
      obtain ⟨⟨om, em⟩, hLm⟩ : ∃ q, L[m]? = some q := ⟨_, List.getElem?_eq_getElem (show m < L.length by omega)⟩
      have hcl' : ∀ k, (S k || Nat.blt k m) = true → ∀ j ∈ (nth (befL ops.toList []) k).getD [], (S j || Nat.blt j m) = true := fun k hk j hj => by
        rcases Bool.or_eq_true_iff.1 hk with h | h
        · rw [hcl k h j hj]; rfl
        · have h2 : k < m := Nat.le_of_ble_eq_true h
          have := p.lt k j hj
          rw [Bool.or_eq_true]
          exact .inr (Nat.ble_eq_true_of_le (show j + 1 ≤ m by omega))
      have hT : (S m || Nat.blt m m) = false := by rw [hSm, hmm]; rfl
      obtain ⟨e', E2, a2, w2, g1, g2⟩ := one_ok hΓ ops hdst p (S := fun k => S k || Nat.blt k m) hcl' (fun k hk => by
        rcases Bool.or_eq_true_iff.1 hk with h | h
        · exact hn k h
        · have h2 : k < m := Nat.le_of_ble_eq_true h
          omega) hLm hT (fun j hj => by
        have := p.lt m j hj
        rw [Bool.or_eq_true]
        exact .inr (Nat.ble_eq_true_of_le (show j + 1 ≤ m by omega))) h1
      have hee : e' = em := gstep_det hD (hdet m om em (by omega) hLm hSm) ops.toList m e' em g1 (p.pre m om em hLm).2
      subst hee
      exact ⟨E2, a2, w2, g2.same (ins_same p hcl' hLm hT fun k => by
        rw [Bool.eq_iff_iff]
        simp only [Bool.or_eq_true, hlt]
        by_cases e1 : k = m
        · subst e1; simp
        · simp [e1])⟩
theorem any_ok (hΓ : ∀ f C, Γ.con f = some C → ConOK P f C) (hD : ∀ f C, Γ.con f = some C → C.det = true → ∀ x, (C.out x).Det) (ops : Array Oper) (hdst : ∀ o ∈ ops.toList, ∀ d, o.dst = some d → d < N) (hbf : befOk ops.toList 0 = true) {nx : Nat} {st0 : ASt} {K : ASt → Prop}
    (h20 : 20 ≤ nx) (hcr : clear st0 nx ops.toList.length = true) (hR : runD P Γ ops.toList nx (befL ops.toList []) ops.toList 0 st0 [] K) (Q : Exit → Act → World → Prop) (hQ : ∀ st E a w, K st → Sat W0 E0 nl N st E a w → Q .normal a w) :
    ∀ (fuel : Nat) (listed : Array Bool) (L : List (Oper × Eff)) (E : Env) (a : Act) (w : World), L.map (·.1) = ops.toList → Run P Γ ops.toList nx (befL ops.toList []) L 0 st0 [] → K { stA L st0 with nx := nx + 16 * (0 + ops.toList.length) } → listed.size = ops.size →
      (∀ i o, ops[i]? = some o → listed.getD i false = true → ∀ e ∈ o.after.toList, Region.binds .any e = true → listed.getD e.on false = true) →
      left (fun k => listed.getD k false) ops.size ≤ fuel → Sat W0 E0 nl N (sub (fun k => listed.getD k false) 0 L st0) E a w → wpAny P .any ops Q fuel listed a w := by
  have hpath : ∀ L : List (Oper × Eff), L.map (·.1) = ops.toList → Run P Γ ops.toList nx (befL ops.toList []) L 0 st0 [] → Path P Γ ops.toList nx (befL ops.toList []) st0 L := fun L hm hL =>
    run_path (fun i q hi => by rw [← hm, List.getElem?_map, hi]; rfl) (by rw [← hm, List.length_map]; exact Nat.le_refl _) h20 hbf hcr hL
  -- when nothing is ready all is done
  have fin : ∀ (listed : Array Bool) (L : List (Oper × Eff)) (E : Env) (a : Act) (w : World), L.map (·.1) = ops.toList → K { stA L st0 with nx := nx + 16 * (0 + ops.toList.length) } → listed.size = ops.size → Region.ready .any ops listed = [] → Sat W0 E0 nl N (sub (fun k => listed.getD k false) 0 L st0) E a w → Q .normal a w := fun listed L E a w hm hK hsz hr hs => by
    have hlen : L.length = ops.size := by rw [← List.length_map (f := (·.1)), hm]; simp
    have all : ∀ i, i < ops.size → listed.getD i false = true := by
      intro i
      induction i using Nat.strongRecOn with
      | _ i ih =>
        intro hi
        cases hl : listed.getD i false with
        | true => rfl
        | false =>
          have : i ∈ Region.ready .any ops listed := (ready_iff hsz).2 ⟨ops[i], Array.getElem?_eq_getElem hi, hl, fun e he hb => by
            have hlt := befOk_at hbf (k := i) (o := ops[i]) (by simp [hi]) e he hb
            exact ih e.on (by omega) (by omega)⟩
          rw [hr] at this
          cases this
    refine hQ _ E a w hK (hs.same ?_)
    have e1 : sub (fun k => listed.getD k false) 0 L st0 = stA (L.take ops.size) st0 := sub_take fun j _ => by
      rw [Nat.zero_add]
      rcases Nat.lt_or_ge j ops.size with h | h
      · rw [all j h]; exact (Nat.ble_eq_true_of_le h).symm
      · have h1 : Nat.blt j ops.size = false := by
          cases hh : Nat.blt j ops.size with
          | false => rfl
          | true => have : j < ops.size := Nat.le_of_ble_eq_true hh; omega
        rw [h1, Array.getD, dif_neg (by omega)]
    rw [e1, List.take_of_length_le (by omega)]
    exact ⟨fun _ => rfl, fun _ => rfl⟩
  intro fuel
  induction fuel with
  | zero =>
    intro listed L E a w hm hL hK hsz hcl hleft hs
    have hall := left_zero (Nat.le_zero.1 hleft)
    have hr : Region.ready .any ops listed = [] := by
      cases hr : Region.ready .any ops listed with
      | nil => rfl
      | cons i r =>
        obtain ⟨o, h1, h2, _⟩ := (ready_iff hsz (i := i)).1 (by rw [hr]; exact List.mem_cons_self)
        rw [hall i (Array.getElem?_eq_some_iff.1 h1).1] at h2
        cases h2
    exact ⟨hr, fin listed L E a w hm hK hsz hr hs⟩
  | succ fuel ih =>
    intro listed L E a w hm hL hK hsz hcl hleft hs
    have p := hpath L hm hL
    have hlen : L.length = ops.size := by rw [← List.length_map (f := (·.1)), hm]; simp
    refine ⟨fun hr => fin listed L E a w hm hK hsz hr hs, fun i hi => ?_⟩
    obtain ⟨o, h1, h2, h3⟩ := (ready_iff hsz).1 hi
    have hlt : i < ops.size := (Array.getElem?_eq_some_iff.1 h1).1
    obtain ⟨⟨o', e⟩, hLi⟩ : ∃ q, L[i]? = some q := ⟨_, List.getElem?_eq_getElem (by omega)⟩
    have hoo : o' = o := by
      have := p.fst i o' e hLi
      have h1' : ops.toList[i]? = some o := by simpa using h1
      rw [h1'] at this
      injection this with this
      exact this.symm
    subst hoo
    -- closure
    have clo : ∀ k, (∀ o, ops[k]? = some o → ∀ e ∈ o.after.toList, Region.binds .any e = true → listed.getD e.on false = true) → ∀ j ∈ (nth (befL ops.toList []) k).getD [], listed.getD j false = true := by
      intro k
      induction k using Nat.strongRecOn with
      | _ k ihk =>
        intro hk j hj
        rcases Nat.lt_or_ge k ops.size with hks | hks
        · obtain ⟨e, he, hb, hor⟩ := bef_at (l := ops.toList) (k := k) (o := ops[k]) (by simp [hks]) hj
          have hon := hk ops[k] (Array.getElem?_eq_getElem hks) e he hb
          rcases hor with rfl | ⟨g1, g2⟩
          · exact hon
          · exact ihk e.on g1 (fun o2 ho2 => hcl e.on o2 ho2 hon) j g2
        · rw [nth_eq, List.getElem?_eq_none (by rw [befL_len]; simpa using hks)] at hj
          cases hj
    have hS : ∀ k, listed.getD k false = true → k < L.length := fun k hk => by
      rcases Nat.lt_or_ge k listed.size with h | h
      · omega
      · rw [Array.getD, dif_neg (by omega)] at hk; cases hk
    have hclo : ∀ k, listed.getD k false = true → ∀ j ∈ (nth (befL ops.toList []) k).getD [], listed.getD j false = true := fun k hk => clo k fun o2 ho2 => hcl k o2 ho2 hk
    have hbi : ∀ j ∈ (nth (befL ops.toList []) i).getD [], listed.getD j false = true := clo i fun o2 ho2 => by rw [h1] at ho2; injection ho2 with ho2; subst ho2; exact h3
    have hgs := p.gstep (S := fun k => listed.getD k false) hclo hS hLi h2 hbi
    have hp := (p.pre i o' e hLi).1
    have hout := (p.pre i o' e hLi).2
    rw [← hgs] at hp hout
    have hg := gstep_ok hs hΓ (hdst o' (by simpa using Array.mem_of_getElem? h1)) ops hp Q
    have hset : ∀ k, (listed.setIfInBounds i true).getD k false = if k = i then true else listed.getD k false := fun k => by
      rw [Array.getD_eq_getD_getElem?, Array.getD_eq_getD_getElem?, Array.getElem?_setIfInBounds]
      by_cases e1 : i = k
      · subst e1; simp [hsz, hlt]
      · rw [if_neg e1, if_neg (fun h => e1 h.symm)]
    have hcl2 : ∀ k o, ops[k]? = some o → (listed.setIfInBounds i true).getD k false = true → ∀ e ∈ o.after.toList, Region.binds .any e = true → (listed.setIfInBounds i true).getD e.on false = true := fun k o2 ho2 hk e2 he2 hb => by
      rw [hset] at hk ⊢
      split
      · rfl
      · by_cases e1 : k = i
        · subst e1
          rw [h1] at ho2
          injection ho2 with ho2
          subst ho2
          exact h3 e2 he2 hb
        · rw [if_neg e1] at hk
          exact hcl k o2 ho2 hk e2 he2 hb
    have hleft2 : left (fun k => (listed.setIfInBounds i true).getD k false) ops.size ≤ fuel := by
      have := left_set (S := fun k => listed.getD k false) (S' := fun k => (listed.setIfInBounds i true).getD k false) h2 hset hlt
      omega
    have next : ∀ a' w', After W0 E0 nl N (sub (fun k => listed.getD k false) 0 L st0) o' (gstep P Γ ops.toList i (nx + 16 * i) o' (sub (fun k => listed.getD k false) 0 L st0)) a' w' → wpAny P .any ops Q fuel (listed.setIfInBounds i true) a' w' := fun a' w' ⟨e', E', g1, g2⟩ => by
      rcases p.det i o' e hLi with hdet | haft
      · have hee : e' = e := by
          have g1' := g1
          have ho' := hout
          rw [hgs] at g1' ho'
          exact gstep_det hD hdet ops.toList i e' e g1' ho'
        subst hee
        exact ih _ L E' a' w' hm hL hK (by simpa using hsz) hcl2 hleft2 (g2.same (ins_same p hclo hLi h2 hset))
      · -- another way of the operation: all that follows is laid anew
        have hli : ops.toList[i]? = some o' := by simpa using h1
        have g1' := g1
        rw [hgs, pst_eq] at g1'
        obtain ⟨log', k1, k2⟩ := run_cut i ops.toList L 0 st0 [] (o := o') (e := e') hR hL hm hli (by rw [Nat.zero_add]; exact g1')
        rw [Nat.zero_add] at k1 k2
        have hlt' : i < L.length := by omega
        have hlA : (L.take i).length = i := by rw [List.length_take]; omega
        let A := L.take i ++ [(o', e')]
        have hA : ∀ k, k < i → A[k]? = L[k]? := fun k hk => by
          show (L.take i ++ [(o', e')])[k]? = _
          rw [List.getElem?_append_left (by omega), List.getElem?_take, if_pos hk]
        have hAi : A[i]? = some (o', e') := by
          show (L.take i ++ [(o', e')])[i]? = _
          rw [List.getElem?_append_right (by omega), hlA, Nat.sub_self]; rfl
        have hAl : A.length = i + 1 := by show (L.take i ++ [(o', e')]).length = _; rw [List.length_append, hlA]; rfl
        have hno : ∀ k, listed.getD k false = true → k < i := fun k hk => by
          rcases Nat.lt_or_ge k i with h | h
          · exact h
          · exfalso
            by_cases e1 : k = i
            · subst e1; rw [h2] at hk; cases hk
            · have := hclo k hk i (haft k (by omega) (by have := hS k hk; rw [hlen] at this; simpa using this))
              rw [h2] at this
              cases this
        have hRA : Run P Γ ops.toList nx (befL ops.toList []) A 0 st0 [] := k2 [] trivial
        have pA : Path P Γ ops.toList nx (befL ops.toList []) st0 A := run_path (fun k q hk => by
          rcases Nat.lt_or_ge k i with h | h
          · rw [hA k h] at hk
            obtain ⟨oq, eq⟩ := q
            exact p.fst k oq eq hk
          · have hk2 : k < A.length := (List.getElem?_eq_some_iff.1 hk).1
            have e1 : k = i := by omega
            subst e1
            rw [hAi] at hk
            injection hk with hk
            subst hk
            exact hli) (by rw [hAl]; simp; omega) h20 hbf hcr hRA
        have esub : sub (fun k => listed.getD k false) 0 L st0 = sub (fun k => listed.getD k false) 0 A st0 := sub_agree fun k hk => by
          rw [Nat.zero_add] at hk
          exact (hA k (hno k hk)).symm
        have hs1 : Sat W0 E0 nl N (sub (fun k => (listed.setIfInBounds i true).getD k false) 0 A st0) E' a' w' := by
          have := g2
          rw [esub] at this
          exact this.same (ins_same pA hclo hAi h2 hset)
        have hclo2 : ∀ k, (listed.setIfInBounds i true).getD k false = true → ∀ j ∈ (nth (befL ops.toList []) k).getD [], (listed.setIfInBounds i true).getD j false = true := fun k hk j hj => by
          rw [hset] at hk ⊢
          split
          · rfl
          · by_cases e1 : k = i
            · subst e1; exact hbi j hj
            · rw [if_neg e1] at hk; exact hclo k hk j hj
        obtain ⟨E2, a2, w2, hs2⟩ := fill_ok hΓ hD ops hdst pA hclo2 (fun k hk => by
          rw [hset] at hk
          split at hk
          · omega
          · have := hno k hk; omega) (i := i) (by omega) (fun k ok ek hk hLk hSk => by
          rcases pA.det k ok ek hLk with h | h
          · exact h
          · exfalso
            have h4 := hbi k (h i hk (by simpa using hlt))
            rw [hset, if_neg (by omega)] at hSk
            rw [h4] at hSk
            cases hSk) i (Nat.le_refl _) E' a' w' hs1
        have e2 : sub (fun k => (listed.setIfInBounds i true).getD k false || Nat.blt k i) 0 A st0 = stA A st0 := by
          have := sub_take (S := fun k => (listed.setIfInBounds i true).getD k false || Nat.blt k i) (L := A) (i := 0) (k := i + 1) (st := st0) fun j _ => by
            rw [Nat.zero_add, Bool.eq_iff_iff, Bool.or_eq_true, hset]
            constructor
            · rintro (h | h)
              · split at h
                · subst_vars; exact Nat.ble_eq_true_of_le (Nat.le_refl _)
                · have := hno j h; exact Nat.ble_eq_true_of_le (show j + 1 ≤ i + 1 by omega)
              · have : j < i := Nat.le_of_ble_eq_true h
                exact Nat.ble_eq_true_of_le (show j + 1 ≤ i + 1 by omega)
            · intro h
              have : j < i + 1 := Nat.le_of_ble_eq_true h
              by_cases e1 : j = i
              · exact .inl (if_pos e1)
              · exact .inr (Nat.ble_eq_true_of_le (show j + 1 ≤ i by omega))
          rw [this, List.take_of_length_le (by omega)]
        have e3 : stA A st0 = e'.app (stA (L.take i) st0) o'.dst := stA_append
        rw [e2, e3] at hs2
        obtain ⟨L2, q1, q2, q3⟩ := run_ex hΓ ops (ops.toList.drop (i + 1)) (i + 1) _ log' E2 a2 w2 (fun o ho => hdst o (List.mem_of_mem_drop ho)) hs2 k1
        have hmm : (L.take i ++ (o', e') :: L2).map (·.1) = ops.toList := by
          rw [List.map_append, List.map_take, hm, List.map_cons, q1]
          have : ops.toList.drop i = o' :: ops.toList.drop (i + 1) := by
            rw [List.drop_eq_getElem_cons (show i < ops.toList.length by simpa using hlt)]
            congr 1
            have := (List.getElem?_eq_some_iff.1 hli).2
            exact this
          rw [← this, List.take_append_drop]
        refine ih _ (L.take i ++ (o', e') :: L2) E' a' w' hmm (k2 L2 q2) ?_ (by simpa using hsz) hcl2 hleft2 ?_
        · have e4 : stA (L.take i ++ (o', e') :: L2) st0 = stA L2 (e'.app (stA (L.take i) st0) o'.dst) := stA_append
          rw [e4]
          have e5 : i + 1 + (ops.toList.drop (i + 1)).length = 0 + ops.toList.length := by rw [List.length_drop]; simp; omega
          rw [e5] at q3
          exact q3
        · rw [sub_agree (L := L.take i ++ (o', e') :: L2) (L' := A) fun k hk => by
            rw [Nat.zero_add, hset] at hk
            have hki : k < i + 1 := by
              split at hk
              · omega
              · have := hno k hk; omega
            have : L.take i ++ (o', e') :: L2 = A ++ L2 := by simp [A]
            rw [this, List.getElem?_append_left (by omega)]]
          exact hs1
    unfold wpOp
    rw [h1]
    simp only
    split
    · rename_i hw
      rw [if_pos hw] at hg
      exact .inl (Oper.wp_mono next hg)
    · rename_i hw
      rw [if_neg hw] at hg
      exact next _ _ hg
theorem runR_ok (hΓ : ∀ f C, Γ.con f = some C → ConOK P f C) (hD : ∀ f C, Γ.con f = some C → C.det = true → ∀ x, (C.out x).Det) (hm : P.follows .mixedOrders = true) (ops : Array Oper) (id : Nat) (hdst : ∀ o ∈ ops.toList, ∀ d, o.dst = some d → d < N) {K : ASt → Prop} (Q : Exit → Act → World → Prop)
    (hQ : ∀ st E a w, K st → Sat W0 E0 nl N st E a w → Q .normal a w) (h : Sat W0 E0 nl N st E a w) (hr : runR P Γ ops.toList st K) : (Code.region id ops true).wp P Q a w := by
  unfold runR at hr
  cases hc : Nat.ble 20 st.nx && befOk ops.toList 0 && clear st st.nx ops.toList.length with
  | false => rw [hc] at hr; exact hr.elim
  | true =>
    rw [hc] at hr
    simp only [cond_true] at hr
    simp only [Bool.and_eq_true] at hc
    obtain ⟨⟨c1, c2⟩, c3⟩ := hc
    obtain ⟨L, h1, h2, h3⟩ := run_ex hΓ ops ops.toList 0 st [] E a w hdst h hr
    refine wp_region_any hm ?_
    have hnone : ∀ k, (Array.replicate ops.size false).getD k false = false := fun k => by
      rw [Array.getD_eq_getD_getElem?, Array.getElem?_replicate]
      split <;> rfl
    refine any_ok hΓ hD ops hdst c2 (Nat.le_of_ble_eq_true c1) c3 hr Q hQ ops.size _ L E a _ h1 h2 h3 (by simp) (fun i o ho hl => by rw [hnone] at hl; cases hl) ?_ ?_
    · have : ∀ m, left (fun k => (Array.replicate ops.size false).getD k false) m ≤ m := by
        intro m
        induction m with
        | zero => exact Nat.le_refl _
        | succ m ih => simp only [left]; rw [hnone]; exact Nat.add_le_add ih (Nat.le_refl _)
      exact this ops.size
    · refine (h.drew _).same ?_
      have : sub (fun k => (Array.replicate ops.size false).getD k false) 0 L st = stA (L.take 0) st := sub_take fun j _ => by
        rw [hnone]
        cases hh : Nat.blt j (0 + 0) with
        | false => rfl
        | true => have : j < 0 + 0 := Nat.le_of_ble_eq_true hh; omega
      rw [this]
      exact Same.rfl'
end
end Go.Proofs.YtpgglbnagphgoaaGreat
/- Bodies: what is asked is enough. -/
namespace Go.Proofs.YtpgglbnagphgoaaGreat
open Go.RowKit
open SR (opt)

def Ann.has : Ann → Fr → Tb → Nat → Prop
  | .all _ f, fr, tb, d => ∃ x, (f x).has fr tb d
  | .giv p r, fr, tb, d => p ∧ r.has fr tb d
  | .mk fr' tb' d', fr, tb, d => fr' = fr ∧ tb' = tb ∧ d' = d
theorem min_nat {p : Nat → Prop} (h : ∃ n, p n) : ∃ n, p n ∧ ∀ m, p m → n ≤ m := by
  obtain ⟨n, hn⟩ := h
  induction n using Nat.strongRecOn with
  | _ n ih =>
    by_cases hx : ∃ m, m < n ∧ p m
    · obtain ⟨m, h1, h2⟩ := hx
      exact ih m h1 h2
    · exact ⟨n, hn, fun m hm => Nat.le_of_not_lt fun hlt => hx ⟨m, hlt, hm⟩⟩
def codeOk (N : Nat) : Code → Bool
  | .region _ ops _ => ops.toList.all fun o => match o.dst with | some d => Nat.blt d N | none => true
  | .seq a b => codeOk N a && codeOk N b
  | .cond _ a b => codeOk N a && codeOk N b
  | .block _ a => codeOk N a
  | .loop a => codeOk N a
  | _ => true
def AEx.ex : AEx → Exit
  | .normal => .normal
  | .exit id => .exit id
  | .ret => .ret

section
variable {P : Program} {Γ : Cfg} {W0 w w' : World} {E0 E E' E1 E2 : Env} {nl N base : Nat} {st : ASt} {a : Act} {o : Oper} {tb T tbw : Tb} {bs : List Nat} {r : Ren}

theorem ex_ok (h : Sat W0 E0 nl N st E a w) {A : Ann} : ∀ {K : Nat → Prop}, A.ex st K → ∃ fr tb d E', A.has fr tb d ∧ K d ∧ Sat W0 E0 nl N ⟨fr, tb, 100⟩ E' a w := by
  induction A with
  | all α f ih =>
    intro K hx
    obtain ⟨x, hx⟩ := hx
    obtain ⟨fr, tb, d, E', h1, h2⟩ := ih x hx
    exact ⟨fr, tb, d, E', ⟨x, h1⟩, h2⟩
  | giv p r ih =>
    intro K hx
    obtain ⟨fr, tb, d, E', h1, ⟨hp, h2⟩, h3⟩ := ih hx
    exact ⟨fr, tb, d, E', ⟨hp, h1⟩, h2, h3⟩
  | mk fr tb d =>
    intro K hx
    obtain ⟨h1, E', h2⟩ := leC_ok h 100 hx
    exact ⟨fr, tb, d, E', ⟨rfl, rfl, rfl⟩, h1, h2⟩
theorem al_ok {A : Ann} {K : ASt → Nat → Prop} (hx : A.al K) {fr : Fr} {tb : Tb} {d : Nat} (h : A.has fr tb d) : K ⟨fr, tb, 100⟩ d := by
  induction A with
  | all α f ih =>
    obtain ⟨x, h⟩ := h
    exact ih x (hx x) h
  | giv p r ih => exact ih (hx h.1) h.2
  | mk fr' tb' d' =>
    obtain ⟨rfl, rfl, rfl⟩ := h
    exact hx
theorem awp_ok (hΓ : ∀ f C, Γ.con f = some C → ConOK P f C) (hD : ∀ f C, Γ.con f = some C → C.det = true → ∀ x, (C.out x).Det) (hm : P.follows .mixedOrders = true) (an : Nat → Option Ann) (c : Code) : ∀ (st : ASt) (E : Env) (a : Act) (w : World) (R : AEx → ASt → Prop) (Q : Exit → Act → World → Prop), codeOk N c = true → Sat W0 E0 nl N st E a w → awp P Γ an c st R → (∀ e st E a w, R e st → Sat W0 E0 nl N st E a w → Q e.ex a w) → c.wp P Q a w := by
  induction c with
  | skip => intro st E a w R Q _ h hr hq; exact wp_skip (hq _ _ _ _ _ hr h)
  | exit id => intro st E a w R Q _ h hr hq; exact wp_exit (hq _ _ _ _ _ hr h)
  | ret => intro st E a w R Q _ h hr hq; exact wp_ret (hq _ _ _ _ _ hr h)
  | region id ops draw =>
    intro st E a w R Q hc h hr hq
    cases draw with
    | true =>
      refine runR_ok hΓ hD hm ops id (fun o ho d hd => ?_) Q (fun st E a w hk hs => hq .normal st E a w hk hs) h hr
      have := (List.all_eq_true.1 hc) o ho
      rw [hd] at this
      exact Nat.le_of_ble_eq_true this
    | false =>
      refine wp_region_list (runL_ok (W0 := W0) (E0 := E0) (nl := nl) (N := N) hΓ ops Q (fun st E a w hk hs => hq .normal st E a w hk hs) ops.toList 0 st E a w (fun o ho d hd => ?_) h hr)
      have := (List.all_eq_true.1 hc) o ho
      rw [hd] at this
      exact Nat.le_of_ble_eq_true this
  | seq x y ihx ihy =>
    intro st E a w R Q hc h hr hq
    simp only [codeOk, Bool.and_eq_true] at hc
    refine wp_seq ?_
    simp only [awp] at hr
    cases han : an (1000 + keyC y) with
    | none =>
      rw [han] at hr
      refine ihx st E a w _ _ hc.1 h hr fun e st E a w hk hs => ?_
      cases e with
      | normal => exact ihy st E a w R Q hc.2 hs hk hq
      | exit id => exact hq (.exit id) st E a w hk hs
      | ret => exact hq .ret st E a w hk hs
    | some A =>
      rw [han] at hr
      refine ihx st E a w _ _ hc.1 h hr fun e st E a w hk hs => ?_
      cases e with
      | normal =>
        obtain ⟨fr, tb, d, E', h1, hk2, h2⟩ := ex_ok hs hk
        exact ihy _ E' a w R Q hc.2 h2 (al_ok hk2 h1 rfl) hq
      | exit id => exact hq (.exit id) st E a w hk hs
      | ret => exact hq .ret st E a w hk hs
  | cond c x y ihx ihy =>
    intro st E a w R Q hc h hr hq
    simp only [codeOk, Bool.and_eq_true] at hc
    simp only [awp] at hr
    split at hr
    · rename_i hv
      exact wp_cond_true (h.ev1 hv) (ihx st E a w R Q hc.1 h hr hq)
    · rename_i hv
      exact wp_cond_false (h.ev1 hv) (ihy st E a w R Q hc.2 h hr hq)
    · rename_i b hv
      exact wp_cond_split (bool_of (h.ev1 hv)) (fun hb => ihx st E a w R Q hc.1 h (hr.1 hb) hq) (fun hb => ihy st E a w R Q hc.2 h (hr.2 hb) hq)
    · exact hr.elim
  | block id x ih =>
    intro st E a w R Q hc h hr hq
    refine wp_block (ih st E a w _ _ hc h hr fun e st E a w hk hs => ?_)
    cases e with
    | normal => exact hq .normal st E a w hk hs
    | ret => exact hq .ret st E a w hk hs
    | exit j =>
      simp only at hk
      show (if j = id then _ else _)
      cases hb : Nat.beq j id with
      | true =>
        rw [hb] at hk
        rw [if_pos ((beq_iff _ _).1 hb)]
        exact hq .normal st E a w hk hs
      | false =>
        rw [hb] at hk
        rw [if_neg (beq_no.1 hb)]
        exact hq (.exit j) st E a w hk hs
  | loop x ih =>
    intro st E a w R Q hc h hr hq
    simp only [awp] at hr
    cases han : an (keyC x) with
    | none =>
      rw [han] at hr
      simp only at hr
      cases han2 : an (2000 + keyC x) with
      | none => rw [han2] at hr; exact hr.elim
      | some A =>
      rw [han2] at hr
      simp only at hr
      obtain ⟨fr0, tb0, d0, E1', g1, hr2, g2⟩ := ex_ok h hr
      let I : Act → World → Nat → Prop := fun a w d => d ≤ d0 ∧ ∃ fr tb E, A.has fr tb d ∧ Sat W0 E0 nl N ⟨fr, tb, 100⟩ E a w
      have hI : ∀ a w, (∃ d, I a w d) → ∃ d, I a w d ∧ ∀ m, I a w m → d ≤ m := fun a w hh => min_nat hh
      let μ : Act → World → Nat := fun a w => open Classical in if hh : ∃ d, I a w d then Classical.choose (hI a w hh) else 0
      have hμ : ∀ a w (hh : ∃ d, I a w d), I a w (μ a w) ∧ ∀ m, I a w m → μ a w ≤ m := fun a w hh => by
        have : μ a w = Classical.choose (hI a w hh) := by simp only [μ]; rw [dif_pos hh]
        rw [this]
        exact Classical.choose_spec (hI a w hh)
      refine wp_loop (fun a w => ∃ d, I a w d) μ ⟨d0, Nat.le_refl _, fr0, tb0, E1', g1, g2⟩ fun a w hh => ?_
      obtain ⟨⟨hle, fr, tb, E2, h1, h2⟩, _⟩ := hμ a w hh
      refine ih _ E2 a w _ _ hc h2 (al_ok hr2 h1 hle) fun e st E a' w' hk hs => ?_
      cases e with
      | normal =>
        obtain ⟨fr', tb', d', E', k1, k2, k3⟩ := ex_ok hs hk
        have hI' : I a' w' d' := ⟨by omega, fr', tb', E', k1, k3⟩
        exact ⟨⟨d', hI'⟩, Nat.lt_of_le_of_lt ((hμ a' w' ⟨d', hI'⟩).2 d' hI') k2⟩
      | exit id => exact hq (.exit id) st E a' w' hk hs
      | ret => exact hq .ret st E a' w' hk hs
    | some A =>
      rw [han] at hr
      obtain ⟨hr1, hr2⟩ := hr
      let I : Act → World → Nat → Prop := fun a w d => ∃ fr tb E, A.has fr tb d ∧ Sat W0 E0 nl N ⟨fr, tb, 100⟩ E a w
      have hI : ∀ a w, (∃ d, I a w d) → ∃ d, I a w d ∧ ∀ m, I a w m → d ≤ m := fun a w hh => min_nat hh
      let μ : Act → World → Nat := fun a w => open Classical in if hh : ∃ d, I a w d then Classical.choose (hI a w hh) else 0
      have hμ : ∀ a w (hh : ∃ d, I a w d), I a w (μ a w) ∧ ∀ m, I a w m → μ a w ≤ m := fun a w hh => by
        have : μ a w = Classical.choose (hI a w hh) := by simp only [μ]; rw [dif_pos hh]
        rw [this]
        exact Classical.choose_spec (hI a w hh)
      refine wp_loop (fun a w => ∃ d, I a w d) μ ?_ fun a w hh => ?_
      · obtain ⟨fr, tb, d, E', h1, _, h2⟩ := ex_ok h hr1
        exact ⟨d, fr, tb, E', h1, h2⟩
      · obtain ⟨⟨fr, tb, E2, h1, h2⟩, _⟩ := hμ a w hh
        refine ih _ E2 a w _ _ hc h2 (al_ok hr2 h1) fun e st E a' w' hk hs => ?_
        cases e with
        | normal =>
          obtain ⟨fr', tb', d', E', k1, k2, k3⟩ := ex_ok hs hk
          have hh' : ∃ d, I a' w' d := ⟨d', fr', tb', E', k1, k3⟩
          exact ⟨hh', Nat.lt_of_le_of_lt ((hμ a' w' hh').2 d' ⟨fr', tb', E', k1, k3⟩) k2⟩
        | exit id => exact hq (.exit id) st E a' w' hk hs
        | ret => exact hq .ret st E a' w' hk hs
  | _ => intro st E a w R Q _ h hr hq; exact hr.elim
end
end Go.Proofs.YtpgglbnagphgoaaGreat
/- Functions: a body that asks no more than holds keeps its contract. -/
namespace Go.Proofs.YtpgglbnagphgoaaGreat
open Go.RowKit
open SR (opt)

section
variable {P : Program} {Γ : Cfg} {W0 w w' : World} {E0 E E' E1 E2 : Env} {nl N base : Nat} {st : ASt} {a : Act} {o : Oper} {tb T tbw : Tb} {bs : List Nat} {r : Ren}

theorem box_load (h : Sat W0 E0 nl N st E a w) {t : TypeId} {n off id : Nat} {ag f : Bool} {vs l : List A1} {v : AV} (ht : tinfo P t = some (n, ag)) (hl : lk st.tb id = some (.box f vs)) (hc : cut vs off n = some l) (hv : avOf ag l = some v) :
    ∃ u, (loadVar t ⟨E.hd id, off, none⟩).run P w = .ok u w ∧ RepV w E st.tb u v := by
  obtain ⟨cur, T, hh, _, hrl, _⟩ := (h.blks id _ hl : BlkOk _ _ _ _ _ (.box f vs))
  obtain ⟨c1, c2, c3⟩ := cut_get hc
  have hsz := hrl.1
  obtain ⟨u, h1, h2⟩ := load_ok (P := P) (w := w) (E := E) (tb := st.tb) (b := E.hd id) (off := off) ht (us := (cur.toList.drop off).take n) c1 (by simp; omega) (fun j u hj => by
      rw [List.getElem?_take] at hj
      split at hj
      · rw [cell_of_row w _ _ cur T (0, 0) hh]; simpa using hj
      · cases hj) (fun j x u hj hu => by
      rw [List.getElem?_take] at hu
      split at hu
      · rename_i hjn
        rw [c3 j hjn] at hj
        obtain ⟨u', h1, h2, h3⟩ := hrl.2 _ _ hj
        have : u' = u := by
          have hu' : cur[off + j]? = some u := by simpa using hu
          rw [hu'] at h1
          injection h1 with h1
          exact h1.symm
        subst this
        exact ⟨h2, h3⟩
      · cases hu) hv
  refine ⟨u, ?_, h2⟩
  simpa [Instr.loadAt, Instr.sureAddr] using h1
def resRun (tmps : Array Value) : ResultVar → Sem Value
  | .tmp t => pure (tmps.getD t undef)
  | .cell a t => do loadVar t (← asAddr (tmps.getD a undef))
theorem resC_ok (h : Sat W0 E0 nl N st E a w) {x : ResultVar} {c : Bool × List A1} (hc : resC P st x = some c) : ∃ u, (resRun a.tmps x).run P w = .ok u w ∧ RepT w E st.tb u c := by
  cases x with
  | tmp t =>
    simp only [resC] at hc
    split at hc
    · rename_i y hy
      injection hc with hc
      subst hc
      obtain ⟨u, h1, h2⟩ := h.slots t _ hy
      exact ⟨u, by simp [resRun, h1], y, rfl, h2⟩
    · rename_i l hy
      injection hc with hc
      subst hc
      obtain ⟨u, h1, h2⟩ := h.slots t _ hy
      exact ⟨u, by simp [resRun, h1], h2⟩
    · cases hc
  | cell t ty =>
    simp only [resC] at hc
    split at hc
    · rename_i id off n ag hy ht
      split at hc
      · rename_i f vs hl
        simp only [Option.bind_eq_some_iff] at hc
        obtain ⟨l, hcut, hc⟩ := hc
        obtain ⟨u0, h1, h2⟩ := h.slots t _ hy
        have h2 : RepA w E st.tb u0 (.ref id off) := h2
        have hpt := h2.2 f vs hl
        have hrun : ∀ u, (loadVar ty ⟨E.hd id, off, none⟩).run P w = .ok u w → (resRun a.tmps (.cell t ty)).run P w = .ok u w := fun u hu => by
          simp [resRun, h1, hpt, asAddr, hu]
        cases ag with
        | true =>
          simp only [cond_true, Option.some.injEq] at hc
          subst hc
          obtain ⟨u, k1, k2⟩ := box_load (v := .agg l) h ht hl hcut rfl
          exact ⟨u, hrun u k1, k2⟩
        | false =>
          simp only [cond_false] at hc
          split at hc
          · rename_i y
            injection hc with hc
            subst hc
            obtain ⟨u, k1, k2⟩ := box_load (v := .one y) h ht hl hcut rfl
            exact ⟨u, hrun u k1, y, rfl, k2⟩
          · cases hc
      · cases hc
    · cases hc
theorem resL_ok (h : Sat W0 E0 nl N st E a w) : ∀ {l : List ResultVar} {m : List (Bool × List A1)}, resL P st l = some m → ∃ us : List Value, (l.mapM (resRun a.tmps)).run P w = .ok us w ∧ us.length = m.length ∧ ∀ (i : Nat) (c : Bool × List A1), m[i]? = some c → ∃ u, us[i]? = some u ∧ RepT w E st.tb u c := by
  intro l
  induction l with
  | nil => intro m hm; simp only [resL, Option.some.injEq] at hm; subst hm; exact ⟨[], rfl, rfl, fun i c hi => by simp at hi⟩
  | cons x l ih =>
    intro m hm
    simp only [resL] at hm
    split at hm
    · rename_i c m' h1 h2
      injection hm with hm
      subst hm
      obtain ⟨u, k1, k2⟩ := resC_ok h h1
      obtain ⟨us, g1, g2, g3⟩ := ih h2
      refine ⟨u :: us, by simp [List.mapM_cons, k1, g1], by simp [g2], fun i c' hi => ?_⟩
      cases i with
      | zero =>
        simp only [List.getElem?_cons_zero, Option.some.injEq] at hi
        subst hi
        exact ⟨u, rfl, k2⟩
      | succ i => simpa using g3 i c' (by simpa using hi)
    · cases hm

theorem resV_ok (h : Sat W0 E0 nl N st E a w) {fn : Func} {v : AV} (hv : resV P st fn.results.toList = some v) : ∃ u, (results fn a.tmps).run P w = .ok u w ∧ RepV w E st.tb u v := by
  unfold resV at hv
  cases hm : resL P st fn.results.toList with
  | none => rw [hm] at hv; cases hv
  | some m =>
    rw [hm] at hv
    obtain ⟨us, k1, k2, k3⟩ := resL_ok h hm
    have hrun : (results fn a.tmps).run P w = .ok (if h : us.toArray.size = 1 then us.toArray[0] else .tuple us.toArray) w := by
      have e0 : results fn a.tmps = (fn.results.mapM (resRun a.tmps)) >>= fun vs => pure (if h : vs.size = 1 then vs[0] else .tuple vs) := by
        unfold results
        congr 2
      have e : (fn.results.mapM (resRun a.tmps)) = Functor.map List.toArray (fn.results.toList.mapM (resRun a.tmps)) := Array.mapM_eq_mapM_toList
      rw [e0, e]
      simp [k1]
    have hgen : m.length ≠ 1 → ∃ u, (results fn a.tmps).run P w = .ok u w ∧ RepV w E st.tb u (.tup m) := fun hne => by
      have hsz : us.toArray.size ≠ 1 := by simpa [k2] using hne
      rw [dif_neg hsz] at hrun
      exact ⟨_, hrun, us.toArray, rfl, by simp [k2], fun i c hi => by
        obtain ⟨u, g1, g2⟩ := k3 i c hi
        exact ⟨u, by simpa using g1, g2⟩⟩
    cases m with
    | nil => simp only [Option.some.injEq] at hv; subst hv; exact hgen (by simp)
    | cons x m =>
      cases m with
      | nil =>
        obtain ⟨u, g1, g2⟩ := k3 0 x rfl
        have hus : us = [u] := by
          cases us with
          | nil => cases k2
          | cons y us => cases us with
            | nil => simp at g1; rw [g1]
            | cons => simp at k2
        subst hus
        rw [dif_pos (by rfl)] at hrun
        exact ⟨u, hrun, compOf_ok hv g2⟩
      | cons y m => simp only [Option.some.injEq] at hv; subst hv; exact hgen (by simp)

theorem encPTL_len : ∀ (l : List PT) (n : Nat) (x : PTL l), (encPTL n l x).1.length = l.length := by
  intro l
  induction l with
  | nil => intro n x; rfl
  | cons p l ih =>
    intro n x
    show ((encPT n p x.1).1 :: (encPTL (encPT n p x.1).2.2 l x.2).1).length = _
    simp [ih]
theorem lk_slots : ∀ {vs : List AV} {k i : Nat} {v : AV}, lk (slots k vs) i = some v → k ≤ i ∧ vs[i - k]? = some v := by
  intro vs
  induction vs with
  | nil => intro k i v h; cases h
  | cons x vs ih =>
    intro k i v h
    simp only [slots] at h
    rw [lk_cons] at h
    split at h
    · rename_i e
      subst e
      injection h with h
      subst h
      exact ⟨Nat.le_refl _, by simp⟩
    · obtain ⟨h1, h2⟩ := ih h
      refine ⟨by omega, ?_⟩
      rw [show i - k = (i - (k + 1)) + 1 from by omega]
      simpa using h2
def okPT : (p : PT) → p.den → Prop
  | .ro t, x => Ok t x
  | _, _ => True
def okPTL : (l : List PT) → PTL l → Prop
  | [], _ => True
  | p :: l, x => okPT p x.1 ∧ okPTL l x.2
theorem okL_of : ∀ {l : List Cell}, (∀ (i : Nat) (c : Cell), l[i]? = some c → OkC c) → OkL l := by
  intro l
  induction l with
  | nil => intro _; trivial
  | cons c l ih =>
    intro h
    have h0 := h 0 c rfl
    have ht := ih fun i d hi => h (i + 1) d (by simpa using hi)
    cases l with
    | nil => exact h0
    | cons d l => exact ⟨h0, ht⟩
theorem okPT_of {w : World} {E : Env} {tb : Tb} {p : PT} {n : Nat} {x : p.den} {u : Value} (h : RepV w E tb u (encPT n p x).1) : okPT p x := by
  cases p with
  | ro t =>
    show OkL (t.cells x)
    have h : RepV w E tb u (avT t x) := h
    cases ht : t.isSt with
    | true =>
      unfold avT at h
      rw [ht] at h
      obtain ⟨arr, _, _, h2⟩ := h
      refine okL_of fun i c hi => ?_
      obtain ⟨v, _, _, h3⟩ := h2 i (.c c) (by rw [List.getElem?_map, hi]; rfl)
      exact RepC.okC h3
    | false =>
      unfold avT at h
      rw [ht] at h
      have h3 : OkC ⟨t, x⟩ := RepC.okC h
      cases t with
      | st => cases ht
      | hol => cases ht
      | _ => exact h3
  | _ => trivial
theorem okPTL_of {w : World} {E : Env} {tb : Tb} : ∀ {l : List PT} {n : Nat} {x : PTL l}, (∀ (i : Nat) (v : AV), (encPTL n l x).1[i]? = some v → ∃ u, RepV w E tb u v) → okPTL l x := by
  intro l
  induction l with
  | nil => intro n x _; trivial
  | cons p l ih =>
    intro n x h
    obtain ⟨u, hu⟩ := h 0 _ rfl
    exact ⟨okPT_of hu, ih (n := (encPT n p x.1).2.2) fun i v hi => h (i + 1) v hi⟩
theorem con_ok (hΓ : ∀ f C, Γ.con f = some C → ConOK P f C) (hD : ∀ f C, Γ.con f = some C → C.det = true → ∀ x, (C.out x).Det) (hm : P.follows .mixedOrders = true) {f : FuncId} {C : Con} {fn : Func} {body : Code} (hf : P.funcs[f]? = some fn) (hb : fn.body = some body) (hname : (fn.name == "runtime.NumGoroutine") = false) (hcode : codeOk fn.ntmps body = true)
    (hn : C.ps.length ≤ fn.ntmps) (an : PTL C.ps → Nat → Option Ann) (hk : ∀ x, okPTL C.ps x → (C.out x).pre → keeps P Γ (an x) body fn.results.toList C x) : ConOK P f C := by
  refine ⟨⟨fn, hf, hname, by rw [hb]; rfl⟩, fun x hx w E vals hent => ?_⟩
  have hvl : vals.length = C.ps.length := by rw [hent.len, encPTL_len]
  refine calls_of_wp hf hb ?_
  have hid : ∀ id, (lk (encPTL 0 C.ps x).2.1 id).isSome = true → id < (encPTL 0 C.ps x).2.2 := fun id hid => by
    obtain ⟨b, hb⟩ := Option.isSome_iff_exists.1 hid
    exact (hent.blks _ (lk_mem hb)).1
  have hsat : Sat w E (encPTL 0 C.ps x).2.2 fn.ntmps (entry C x) E { tmps := vals.toArray ++ Array.replicate (fn.ntmps - vals.toArray.size) undef, defers := [] } w := by
    refine ⟨rfl, by simp; omega, fun i v hi => ?_, fun id b hb => (hent.blks _ (lk_mem hb)).2, fun id id' b h1 h2 h3 h4 => hent.disj id id' b (hid id h1) (hid id' h2) h3 h4, fun id b h1 h2 => ⟨hent.mine id b (hid id h1) h2, fun _ => ⟨id, hid id h1, h2⟩⟩, fun id _ _ => ⟨rfl, rfl, fun b hb _ => hb⟩, fun _ _ _ => rfl, Nat.le_refl _, hent.ro, rfl, rfl, rfl, rfl⟩
    obtain ⟨_, h1⟩ := lk_slots (show lk (slots 0 (encPTL 0 C.ps x).1) i = some v from hi)
    obtain ⟨u, h2, h3⟩ := hent.args i v h1
    have hlt : i < vals.length := (List.getElem?_eq_some_iff.1 h2).1
    exact ⟨u, by rw [Array.getElem?_append_left (by simpa using hlt)]; simpa using h2, h3⟩
  refine awp_ok hΓ hD hm (an x) body _ E _ w _ _ hcode hsat (hk x (okPTL_of fun i v hi => by obtain ⟨u, _, h⟩ := hent.args i v hi; exact ⟨u, h⟩) hx) fun e st E2 a' w' hl hs => ?_
  have fin : (∃ v, resV P st fn.results.toList = some v ∧ (C.out x).hit fun e => (match wrL (entry C x).tb e.wr with
      | some tb => le { fr := [(0, v)], tb := st.tb, nx := st.nx } [(0, e.val)] (insL tb e.ins) True
      | none => False)) → a'.defers = [] ∧ ∃ v, (results fn a'.tmps).run P w' = .ok v w' ∧ ∃ v' e, Ending.returned v = .returned v' ∧ (C.out x).outs e ∧ Back w E (encPTL 0 C.ps x).2.2 (encPTL 0 C.ps x).2.1 v' e w' := fun ⟨v, h1, h2⟩ => by
    obtain ⟨u, h3, h4⟩ := resV_ok hs h1
    obtain ⟨e, h5, h6⟩ := (SR.hit_iff _ _).1 h2
    refine ⟨hs.defers, u, h3, u, e, rfl, h5, ?_⟩
    split at h6
    · rename_i tb1 hw
      have hs1 : Sat w E (encPTL 0 C.ps x).2.2 1 ⟨[(0, v)], st.tb, st.nx⟩ E2 ⟨#[u], []⟩ w' := by
        refine { hs with defers := rfl, size := rfl, slots := fun i y hi => ?_ }
        have hi : lk [(0, v)] i = some y := hi
        rw [lk_cons] at hi
        by_cases e1 : i = 0
        · rw [if_pos e1] at hi
          injection hi with hi
          subst hi e1
          exact ⟨u, rfl, h4⟩
        · rw [if_neg e1] at hi
          cases hi
      obtain ⟨_, E', h7⟩ := le_ok hs1 100 h6
      exact ⟨E', tb1, hw, h7⟩
    · exact h6.elim
  have hex : ∀ e, e = AEx.normal ∨ e = AEx.ret → leave P fn.results.toList (entry C x).tb (C.out x) e st → ∃ v, resV P st fn.results.toList = some v ∧ (C.out x).hit fun e => (match wrL (entry C x).tb e.wr with
      | some tb => le { fr := [(0, v)], tb := st.tb, nx := st.nx } [(0, e.val)] (insL tb e.ins) True
      | none => False) := fun e he hl => by
    have : ∀ (o : Option AV), (match o with
        | some v => (C.out x).hit fun e => (match wrL (entry C x).tb e.wr with
          | some tb => le { fr := [(0, v)], tb := st.tb, nx := st.nx } [(0, e.val)] (insL tb e.ins) True
          | none => False)
        | none => False) → ∃ v, o = some v ∧ (C.out x).hit fun e => (match wrL (entry C x).tb e.wr with
          | some tb => le { fr := [(0, v)], tb := st.tb, nx := st.nx } [(0, e.val)] (insL tb e.ins) True
          | none => False) := fun o ho => by
      cases o with
      | none => exact ho.elim
      | some v => exact ⟨v, rfl, ho⟩
    rcases he with rfl | rfl
    · exact this _ hl
    · exact this _ hl
  cases e with
  | normal => exact fin (hex _ (.inl rfl) hl)
  | ret => exact fin (hex _ (.inr rfl) hl)
  | exit id => exact hl.elim
end
end Go.Proofs.YtpgglbnagphgoaaGreat
/- Short words for contracts and annotations. No program is in sight. -/
namespace Go.Proofs.YtpgglbnagphgoaaGreat
open Go.RowKit

def ai (n : Int) : AV := .one (.c (ci n))
def au (n : Int) : AV := .one (.c ⟨.int .u8, n⟩)
def ab (b : Bool) : AV := .one (.c (cb b))
def ax (s : ByteArray) : AV := .one (.c (cs s))
def al (t : Ty) (l : List t.den) : AV := .one (.c (cl t l))
def asl (i : Nat) : AV := .one (.sl i [])
def aref (i : Nat) : AV := .one (.ref i 0)
def ast (s : SN) (x : s.den) : AV := .agg ((s.cells x).map .c)
def bx (v : AV) : Blk := .box false (match v with | .one a => [a] | .agg l => l | .tup _ => [])
def lent (t : Ty) (x : t.den) : Blk := .box true ((t.cells x).map .c)

def mkG (ty : TypeId → Option Ty) (l : List (Nat × Con)) (wr : Bool) : Cfg := { ty := ty, con := fun f => lk l f, wr := wr }
def tyL (l : List (Nat × Ty)) : TypeId → Option Ty := fun t => lk l t
def Cons (P : Program) : List (Nat × Con) → Prop
  | [] => True
  | (f, C) :: l => (ConOK P f C ∧ (C.det = true → ∀ x, (C.out x).Det)) ∧ Cons P l
theorem Cons.at {P : Program} : ∀ {l : List (Nat × Con)} {f : Nat} {C : Con}, Cons P l → lk l f = some C → ConOK P f C ∧ (C.det = true → ∀ x, (C.out x).Det) := by
  intro l
  induction l with
  | nil => intro f C _ h; cases h
  | cons p l ih =>
    obtain ⟨g, D⟩ := p
    intro f C h hl
    simp only [lk] at hl
    cases hb : Nat.beq g f with
    | true =>
      rw [hb] at hl
      have e := (beq_iff _ _).1 hb
      subst e
      simp only [cond_true, Option.some.injEq] at hl
      subst hl
      exact h.1
    | false =>
      rw [hb] at hl
      exact ih h.2 hl
structure Keeps (P : Program) (Γ : Cfg) (an : Nat → Option Ann) (body : Code) (res : List ResultVar) (C : Con) (x : PTL C.ps) : Prop where
  it : keeps P Γ an body res C x
theorem Keeps.of {P : Program} {Γ : Cfg} {an : Nat → Option Ann} {body : Code} {res : List ResultVar} {C : Con} {x : PTL C.ps} {V : Prop} (e : keeps P Γ an body res C x = V) (h : V) : Keeps P Γ an body res C x := ⟨e ▸ h⟩
theorem con_mk {P : Program} {ty : TypeId → Option Ty} {l : List (Nat × Con)} {wr : Bool} (h : Cons P l) (hm : P.follows .mixedOrders = true) {f : FuncId} {C : Con} {fn : Func} {body : Code} (hf : P.funcs[f]? = some fn) (hb : fn.body = some body) (hname : (fn.name == "runtime.NumGoroutine") = false) (hcode : codeOk fn.ntmps body = true)
    (hn : Nat.ble C.ps.length fn.ntmps = true) (an : PTL C.ps → Nat → Option Ann) (hk : ∀ x, okPTL C.ps x → (C.out x).pre → Keeps P (mkG ty l wr) (an x) body fn.results.toList C x) : ConOK P f C :=
  con_ok (fun f C hf => (h.at hf).1) (fun f C hf => (h.at hf).2) hm hf hb hname hcode (Nat.le_of_ble_eq_true hn) an fun x ho hx => (hk x ho hx).it
end Go.Proofs.YtpgglbnagphgoaaGreat
/- Laws: an argument that reads as data is a datum; a law's contract is the given statement's. No program is in sight. -/
namespace Go.Proofs.YtpgglbnagphgoaaGreat
open Go.RowKit Go.ChangeShapes Go.WideShapes Go.Deep

def Reps (w : World) (cs : List Value) (us : List Cell) : Prop := us.length = cs.length ∧ ∀ (i : Nat) (u : Cell) (v : Value), us[i]? = some u → cs[i]? = some v → RepC w (fun b => b < w.heap.size) v u
theorem Reps.append {w : World} {cs cs' : List Value} {us us' : List Cell} (h : Reps w cs us) (h' : Reps w cs' us') : Reps w (cs ++ cs') (us ++ us') := by
  refine ⟨by simp [h.1, h'.1], fun i u v hu hv => ?_⟩
  rcases Nat.lt_or_ge i us.length with hi | hi
  · rw [List.getElem?_append_left hi] at hu
    rw [List.getElem?_append_left (by rw [← h.1]; exact hi)] at hv
    exact h.2 i u v hu hv
  · rw [List.getElem?_append_right hi] at hu
    rw [List.getElem?_append_right (by rw [← h.1]; exact hi), ← h.1] at hv
    exact h'.2 _ u v hu hv
theorem Reps.one {w : World} {v : Value} {u : Cell} (h : RepC w (fun b => b < w.heap.size) v u) : Reps w [v] [u] := by
  refine ⟨rfl, fun i u' v' hu hv => ?_⟩
  cases i with
  | zero => simp only [List.getElem?_cons_zero, Option.some.injEq] at hu hv; subst hu hv; exact h
  | succ i => simp at hu
def Reads (P : Program) (t : TypeId) (sig : List Ty) : Prop :=
  ∀ (H : Type) (enc : TypeId × Value → H) (w : World) (base : Nat) (sp : Nat → Bool) (held : Bool) (fuel : Nat) (cs : List Value) (y : DataW H × List MemPlace),
    DataW.trod enc P w base sp held fuel t cs = some y → ∃ us : List Cell, us.map (·.t) = sig ∧ Reps w cs us
def ReadsFs (P : Program) (fs : List Field) (off : Nat) (sig : List Ty) : Prop :=
  ∀ (H : Type) (enc : TypeId × Value → H) (w : World) (base : Nat) (sp : Nat → Bool) (held : Bool) (cs : List Value),
    (∀ f ∈ fs, ∃ fuel y, DataW.trod enc P w base sp held fuel f.type ((cs.drop f.offset).take (P.cellsOf f.type)) = some y) → cs.length = off + sig.length → ∃ us : List Cell, us.map (·.t) = sig ∧ Reps w (cs.drop off) us
theorem SN.of_sig (s : SN) {us : List Cell} (h : us.map (·.t) = s.sig) : ∃ x, s.cells x = us := by
  cases s <;> rcases us with _ | ⟨⟨t1, x1⟩, _ | ⟨⟨t2, x2⟩, _ | ⟨⟨t3, x3⟩, _ | ⟨⟨t4, x4⟩, _ | ⟨⟨t5, x5⟩, _ | ⟨⟨t6, x6⟩, _ | ⟨g, l⟩⟩⟩⟩⟩⟩⟩ <;>
    simp only [SN.sig, List.map_cons, List.map_nil, List.cons.injEq, reduceCtorEq, and_false, and_true] at h
  case fixup => obtain ⟨rfl, rfl, rfl, rfl⟩ := h; exact ⟨⟨x1, x2, x3, x4⟩, rfl⟩
  case sect => obtain ⟨rfl, rfl, rfl, rfl, rfl, rfl⟩ := h; exact ⟨⟨x1, x2, x3, x4, x5, x6⟩, rfl⟩
  case sym => obtain ⟨rfl, rfl, rfl, rfl⟩ := h; exact ⟨⟨x1, x2, x3, x4⟩, rfl⟩
  case obj => obtain ⟨rfl, rfl⟩ := h; exact ⟨⟨x1, x2⟩, rfl⟩
  case given => obtain ⟨rfl, rfl⟩ := h; exact ⟨⟨x1, x2⟩, rfl⟩
  case img => obtain ⟨rfl, rfl⟩ := h; exact ⟨⟨x1, x2⟩, rfl⟩
  case region => obtain ⟨rfl, rfl, rfl, rfl⟩ := h; exact ⟨⟨x1, x2, x3, x4⟩, rfl⟩
  case mem => obtain ⟨rfl, rfl, rfl⟩ := h; exact ⟨⟨⟨x1, x2⟩, x3⟩, rfl⟩
  case patch => obtain ⟨rfl, rfl⟩ := h; exact ⟨⟨x1, x2⟩, rfl⟩
  case member => obtain ⟨rfl, rfl, rfl⟩ := h; exact ⟨⟨x1, ⟨x2, x3⟩⟩, rfl⟩
  case hash => obtain ⟨rfl, rfl, rfl⟩ := h; exact ⟨⟨x1, x2, x3⟩, rfl⟩
  case layout => obtain ⟨rfl, rfl⟩ := h; exact ⟨⟨x1, x2⟩, rfl⟩
  case reader => obtain ⟨rfl, rfl⟩ := h; exact ⟨⟨x1, x2⟩, rfl⟩
theorem Ty.of_sig (t : Ty) {us : List Cell} (h : us.map (·.t) = t.sig) : ∃ x, t.cells x = us := by
  cases t
  case st s => exact s.of_sig h
  case hol s =>
    obtain ⟨y, hy⟩ := s.of_sig h
    exact ⟨(y, true), hy⟩
  all_goals
    rcases us with _ | ⟨⟨t1, x1⟩, _ | ⟨g, l⟩⟩ <;> simp only [Ty.sig, List.map_cons, List.map_nil, List.cons.injEq, reduceCtorEq, and_false, and_true] at h
    subst h
    exact ⟨x1, rfl⟩

section
variable {P : Program} {t e : TypeId}
theorem wf_ok {n : Int} (h : (Lit.int .i64 n).wf = true) : okI .i64 n := by
  simp [Lit.wf, IntKind.min, IntKind.max, IntKind.signed, IntKind.bits] at h
  exact ⟨by omega, by omega⟩
theorem reads_int (ht : P.underlying t = some (.int .i64)) : Reads P t [.i] := by
  intro H enc w base sp held fuel cs y h
  obtain ⟨n, rfl, _, hw⟩ := DataW.trod_int ht h
  exact ⟨[⟨.i, n⟩], rfl, Reps.one (.int (wf_ok hw))⟩
theorem reads_u8 (ht : P.underlying t = some (.int .u8)) : Reads P t [.u] := by
  intro H enc w base sp held fuel cs y h
  obtain ⟨n, rfl, _, hw⟩ := DataW.trod_int ht h
  simp [Lit.wf, IntKind.min, IntKind.max, IntKind.signed, IntKind.bits] at hw
  exact ⟨[⟨.u, n⟩], rfl, Reps.one (.int ⟨by omega, by omega⟩)⟩
theorem reads_string (ht : P.underlying t = some .string) : Reads P t [.str] := by
  intro H enc w base sp held fuel cs y h
  obtain ⟨s, rfl, _, hs⟩ := DataW.trod_string ht h
  exact ⟨[⟨.str, s⟩], rfl, Reps.one (.str (show s.size ≤ 9223372036854775807 by simpa [maxLen] using hs))⟩
theorem list_mk {α : Type} {n : Nat} {Q : Nat → α → Prop} (h : ∀ i, i < n → ∃ x, Q i x) : ∃ l : List α, l.length = n ∧ ∀ i x, l[i]? = some x → Q i x := by
  induction n with
  | zero => exact ⟨[], rfl, fun i x hi => by simp at hi⟩
  | succ n ih =>
    obtain ⟨l, hl, hq⟩ := ih fun i hi => h i (by omega)
    obtain ⟨x, hx⟩ := h n (by omega)
    refine ⟨l ++ [x], by simp [hl], fun i y hi => ?_⟩
    rcases Nat.lt_or_ge i l.length with h1 | h1
    · rw [List.getElem?_append_left h1] at hi; exact hq i y hi
    · rw [List.getElem?_append_right h1] at hi
      have : i = n := by
        have := (List.getElem?_eq_some_iff.1 hi).1
        simp at this
        omega
      subst this
      rw [hl, Nat.sub_self] at hi
      simp only [List.getElem?_cons_zero, Option.some.injEq] at hi
      subst hi
      exact hx
theorem reads_slice {t' : Ty} (ht : P.underlying t = some (.slice e)) (hC : P.cellsOf e = t'.wd) (hpos : 0 < t'.wd) (he : Reads P e t'.sig) : Reads P t [.list t'] := by
  intro H enc w base sp held fuel cs y h
  rcases Go.Deep.open_slice ht h with ⟨rfl, _⟩ | ⟨a, len, cap, m, n, D, Pl, rfl, hb, hl, hm, hmm, _, hel⟩
  · exact ⟨[⟨.list t', []⟩], rfl, Reps.one (.list (l := []) (fun _ _ => default) (Nat.le_refl _) (by omega) (fun h => absurd rfl h) (fun i x j u hx => by simp at hx))⟩
  · have hlm : len ≤ m := by rw [hmm]; split <;> omega
    have helt : ∀ i, i < len → ∃ x : t'.den, ∀ j u, (t'.cells x)[j]? = some u → ∃ v, w.cell? (a.add (i * t'.wd + j)) = some v ∧ RepC w (fun b => b < w.heap.size) v u := by
      intro i hi
      obtain ⟨cs', hc, ht'⟩ := hel i (by omega)
      rw [hC] at hc
      obtain ⟨_, hcl, hat⟩ := World.cells?_some hc
      obtain ⟨us, hus, hrl, hr⟩ := he H enc w base sp held n cs' _ ht'
      obtain ⟨x, hx⟩ := t'.of_sig hus
      subst hx
      refine ⟨x, fun j u hu => ?_⟩
      have hj : j < cs'.length := by rw [← hrl]; exact (List.getElem?_eq_some_iff.1 hu).1
      refine ⟨cs'[j], ?_, hr j u _ hu (List.getElem?_eq_getElem hj)⟩
      rw [← Go.Deep.add_add, hat j (by rw [← hcl]; exact hj), List.getElem?_eq_getElem hj]
    obtain ⟨l, hll, hlq⟩ := list_mk helt
    subst hll
    have hnone : l ≠ [] → ∃ b off, a = ⟨b, off, none⟩ ∧ b < w.heap.size := fun hne => by
      obtain ⟨x, hi⟩ : ∃ x, l[0]? = some x := ⟨_, List.getElem?_eq_getElem (List.length_pos_iff.2 hne)⟩
      have hlt : 0 < (t'.cells x).length := by rw [t'.cells_len]; exact hpos
      obtain ⟨v, hv, _⟩ := hlq 0 x hi 0 _ (List.getElem?_eq_getElem hlt)
      rw [Nat.zero_mul] at hv
      simp only [Addr.add] at hv
      have hv : w.cell? a = some v := by simpa using hv
      have hspot : a.spot = none := by
        cases hs : a.spot with
        | none => rfl
        | some _ =>
          simp only [World.cell?, if_true, hs] at hv
          split at hv <;> simp at hv
      have hblk := World.block_lt_of_cell? w a hv
      obtain ⟨blk, off, spot⟩ := a
      simp only at hspot
      subst hspot
      exact ⟨blk, off, rfl, hblk⟩
    refine ⟨[⟨.list t', l⟩], rfl, Reps.one (.list (fun i j => (w.cell? (a.add (i * t'.wd + j))).getD default) hl (by simpa [maxLen] using hm) (fun hne => ?_) (fun i x j u hx hu => ?_))⟩
    · obtain ⟨b, off, rfl, hlt⟩ := hnone hne
      refine ⟨b, off, rfl, hlt, hlt, fun i x j u hx hu => ?_⟩
      obtain ⟨v, hv, _⟩ := hlq i x hx j u hu
      have e : (⟨b, off, none⟩ : Addr).add (i * t'.wd + j) = ⟨b, off + (i * t'.wd + j), none⟩ := by unfold Addr.add; split <;> simp_all
      rw [e] at hv ⊢
      rw [hv]
      rfl
    · obtain ⟨v, hv, hr⟩ := hlq i x hx j u hu
      simp only [hv, Option.getD_some]
      exact hr
theorem fs_nil {off : Nat} : ReadsFs P [] off [] := by
  intro H enc w base sp held cs _ hl
  refine ⟨[], rfl, ?_⟩
  have : cs.drop off = [] := List.drop_eq_nil_of_le (by simp at hl; omega)
  rw [this]
  exact ⟨rfl, fun i u v hu => by simp at hu⟩
theorem fs_cons {f : Field} {fs : List Field} {off : Nat} {sig sig' : List Ty} (ho : f.offset = off) (hC : P.cellsOf f.type = sig.length) (hr : Reads P f.type sig) (hs : ReadsFs P fs (off + sig.length) sig') : ReadsFs P (f :: fs) off (sig ++ sig') := by
  intro H enc w base sp held cs h hl
  obtain ⟨fuel, y, hy⟩ := h f (by simp)
  rw [hC, ho] at hy
  obtain ⟨us, h1, h2⟩ := hr H enc w base sp held fuel _ y hy
  obtain ⟨us', h3, h4⟩ := hs H enc w base sp held cs (fun g hg => h g (List.mem_cons_of_mem _ hg)) (by rw [hl]; simp; omega)
  refine ⟨us ++ us', by simp [h1, h3], ?_⟩
  have : cs.drop off = (cs.drop off).take sig.length ++ cs.drop (off + sig.length) := by
    rw [← List.drop_drop, List.take_append_drop]
  rw [this]
  exact h2.append h4
theorem reads_fs {fs : Array Field} {sig : List Ty} (hs : P.underlying t = some (.struct fs)) (hC : P.cellsOf t = sig.length) (h : ReadsFs P fs.toList 0 sig) : Reads P t sig := by
  intro H enc w base sp held fuel cs y hy
  obtain ⟨xs, n, _, _, hlen, hxl, hf⟩ := DataW.trod_struct hs hy
  obtain ⟨us, h1, h2⟩ := h H enc w base sp held cs (fun f hm => by
    obtain ⟨i, hi⟩ := List.getElem?_of_mem hm
    have hi' : fs[i]? = some f := by simpa using hi
    have h1 := hf i f hi'
    have hlt : i < xs.length := by rw [hxl]; exact (Array.getElem?_eq_some_iff.1 hi').1
    rw [List.getElem?_eq_getElem hlt] at h1
    exact ⟨n, _, h1⟩) (by rw [hlen, hC]; omega)
  exact ⟨us, h1, by simpa using h2⟩
end

def env0 : Env := { hd := fun _ => 0, hv := fun _ => .bool true, bs := fun _ _ => False, ro := fun _ => True }
theorem fz0 {w : World} : Fz w env0 [] = fun b => b < w.heap.size := by
  funext b
  simp [Fz, env0, lk]
theorem open_one {ty : Ty} {P : Program} {t : TypeId} {H : Type} {enc : TypeId × Value → H} {w : World} {base : Nat} {sp : Nat → Bool} {held : Bool} {v : Value} {d : DataW H} {p : List MemPlace}
    (hc : v.cells = #[v]) (hr : Reads P t [ty]) (h : DataW.Trod enc P w base sp held t v d p) : ∃ x : ty.den, RepV w env0 [] v (.one (.c ⟨ty, x⟩)) := by
  obtain ⟨fuel, hf⟩ := h
  obtain ⟨us, h1, h2, h3⟩ := hr H enc w base sp held fuel _ _ hf
  rcases us with _ | ⟨⟨t1, x1⟩, _ | ⟨g, l⟩⟩ <;> simp only [List.map_cons, List.map_nil, List.cons.injEq, reduceCtorEq, and_false, and_true] at h1
  subst h1
  refine ⟨x1, ?_⟩
  show RepC w (Fz w env0 []) v ⟨t1, x1⟩
  rw [fz0]
  exact h3 0 _ v rfl (by simp [hc])
theorem open_slice1 {ty : Ty} {P : Program} {t e : TypeId} {H : Type} {enc : TypeId × Value → H} {w : World} {base : Nat} {sp : Nat → Bool} {held : Bool} {r : Reach} {b0 : Nat} {v : Value} {d : DataW H} {p : List MemPlace}
    (hs : P.underlying t = some (.slice e)) (hr : Reads P t [.list ty]) (hv : Value.okWide P w r b0 t v) (h : DataW.Trod enc P w base sp held t v d p) : ∃ x : List ty.den, RepV w env0 [] v (al ty x) := by
  obtain ⟨A, n, c, rfl⟩ := okWide_slice hs hv
  exact open_one (ty := .list ty) rfl hr h
theorem trod_lt_ {P : Program} {t : TypeId} {H : Type} {enc : TypeId × Value → H} {w : World} {base : Nat} {sp : Nat → Bool} {held : Bool} {v : Value} {d : DataW H} {p : List MemPlace} (h : DataW.Trod enc P w base sp held t v d p) : ∀ x ∈ p, x.block < w.heap.size := by
  obtain ⟨m, hm⟩ := h
  exact DataW.trod_lt m _ _ _ hm

def ArgsOk (w : World) : List Value → List AV → Prop
  | [], [] => True
  | v :: vs, a :: l => RepV w env0 [] v a ∧ ArgsOk w vs l
  | _, _ => False
theorem ArgsOk.at {w : World} : ∀ {vs : List Value} {l : List AV}, ArgsOk w vs l → vs.length = l.length ∧ ∀ (i : Nat) (a : AV), l[i]? = some a → ∃ u, vs[i]? = some u ∧ RepV w env0 [] u a := by
  intro vs
  induction vs with
  | nil => intro l h; cases l with
    | nil => exact ⟨rfl, fun i a hi => by simp at hi⟩
    | cons => exact h.elim
  | cons v vs ih =>
    intro l h
    cases l with
    | nil => exact h.elim
    | cons a l =>
      obtain ⟨h1, h2⟩ := h
      obtain ⟨g1, g2⟩ := ih h2
      refine ⟨by simp [g1], fun i b hi => ?_⟩
      cases i with
      | zero => simp only [List.getElem?_cons_zero, Option.some.injEq] at hi; subst hi; exact ⟨v, rfl, h1⟩
      | succ i => simpa using g2 i b (by simpa using hi)
theorem law_calls {P : Program} {f : FuncId} {C : Con} (h : ConOK P f C) (x : PTL C.ps) (hout : C.out x = vc .bool true) {l : List AV} (henc : encPTL 0 C.ps x = (l, [], 0)) {W : World} {vals : List Value} (ha : ArgsOk W vals l) :
    Calls P f vals.toArray W fun e W' => e = .returned (.bool true) ∧ Below W.heap.size W W' := by
  obtain ⟨h1, h2⟩ := ha.at
  have hent : Ent W env0 (encPTL 0 C.ps x).2.2 vals (encPTL 0 C.ps x).1 (encPTL 0 C.ps x).2.1 := by
    rw [henc]
    exact ⟨h1, h2, fun p hp => by simp at hp, fun id id' b hid => absurd hid (Nat.not_lt_zero _), fun id b hid => absurd hid (Nat.not_lt_zero _), fun _ _ => trivial, show (0 : Nat) ≤ 20 by omega⟩
  refine Calls.mono (h.2 x (by rw [hout]; trivial) W env0 vals hent) ?_
  rintro ex w' ⟨v, e, rfl, he, E', tb1, hw, hS⟩
  rw [hout] at he
  have he : e = { val := .one (.c ⟨.bool, true⟩) } := he
  subst he
  obtain ⟨u, hu, hr⟩ := hS.slots 0 (.one (.c ⟨.bool, true⟩)) rfl
  have hu : v = u := by simpa using hu
  subst hu
  have hr : RepC _ _ v ⟨.bool, true⟩ := hr
  cases hr
  refine ⟨rfl, hS.os, hS.tape, hS.output, hS.big, fun k hk => hS.frame k hk fun i hi => ?_⟩
  rw [henc] at hi
  exact absurd hi (Nat.not_lt_zero _)
end Go.Proofs.YtpgglbnagphgoaaGreat
