/- Memories of objects, archives that are linked: both packages keep the same contracts. -/
import Derived.Test.YtfdngmkmeeaeeaaGreatLinka
import Derived.Test.YtfdngmkmeeaeeaaGreatTaka
set_option linter.unusedVariables false
set_option linter.unusedSimpArgs false
set_option maxRecDepth 200000
set_option maxHeartbeats 4000000
namespace Go.Proofs.YtfdngmkmeeaeeaaGreat
open Go Go.RowKit


def memOV (l : List Objt) (b : Int) : Memo := if (link l b).2 = 0 then ⟨(link l b).1, regs (layout l b).ends 0⟩ else ⟨⟨0, []⟩, []⟩
def memOB (l : List Objt) (b : Int) : Bool := decide ((link l b).2 = 0)
def lnkAV (l : List Objt) (arch : List Member) (b : Int) : Img × Int := if objsB l && archB arch then link (taken l arch).all b else (⟨0, []⟩, -1)
theorem memOV_yes {l : List Objt} {b : Int} (h : (link l b).2 = 0) : memOV l b = ⟨(link l b).1, regs (layout l b).ends 0⟩ ∧ memOB l b = true := ⟨by rw [memOV, if_pos h], by simp [memOB, h]⟩
theorem memOV_no {l : List Objt} {b : Int} (h : (link l b).2 ≠ 0) : memOV l b = ⟨⟨0, []⟩, []⟩ ∧ memOB l b = false := ⟨by rw [memOV, if_neg h], by simp [memOB, h]⟩
theorem lnkAV_yes {l : List Objt} {arch : List Member} {b : Int} (h : objsB l = true) (h' : archB arch = true) : lnkAV l arch b = link (taken l arch).all b := by simp [lnkAV, h, h']
theorem lnkAV_no {l : List Objt} {arch : List Member} {b : Int} (h : objsB l = false ∨ archB arch = false) : lnkAV l arch b = (⟨0, []⟩, -1) := by rcases h with h | h <;> simp [lnkAV, h]
theorem taken_len {l : List Objt} {arch : List Member} : (taken l arch).out.length ≤ arch.length ∧ (taken l arch).all.length ≤ l.length + arch.length := by
 have := tkI_len (l := l) (arch := arch) (i := arch.length)
 rw [tkI_end rfl] at this
 exact this
theorem sumI_le4 {α : Type} {f : α → Int} {c : Int} : ∀ {l : List α}, (∀ x ∈ l, f x ≤ c) → sumI f l ≤ c * l.length := by
 intro l
 induction l with
 | nil => intro _; simp [sumI]
 | cons x l ih =>
  intro h
  have h1 := h x (by simp)
  have h2 := ih fun y hy => h y (by simp [hy])
  simp only [sumI, List.length_cons, Int.natCast_add, Int.mul_add]
  simp
  omega
theorem objB_zs {o : Objt} (h : objB o = true) : szOb o ≤ 5000 := by
 have hl := objB_lens h
 have h' := h
 simp only [objB, Bool.and_eq_true, List.all_eq_true] at h'
 have h1 := sumI_le4 (f := szSe) (c := 100) (l := o.sects) fun s hs => by
  have := h'.1.2 s hs
  simp only [secB, nameB, Bool.and_eq_true, decide_eq_true_eq] at this
  unfold szSe
  have h3 := this.2
  split at h3
  ·simp only [decide_eq_true_eq] at h3; rw [h3.2.2.1, h3.2.2.2]; simp; omega
  ·simp only [Bool.and_eq_true, decide_eq_true_eq] at h3; omega
 have h2 := sumI_le4 (f := szSy) (c := 100) (l := o.syms) fun s hs => by
  have := symsB_all h'.2 s hs
  simp only [symB, nameB, Bool.and_eq_true, decide_eq_true_eq] at this
  unfold szSy
  omega
 unfold szOb
 omega
theorem taken_sz {l : List Objt} {arch : List Member} (h : objsB l = true) (h' : archB arch = true) : (taken l arch).all.length + sumI szOb (taken l arch).all ≤ 100000 := by
 have hv := (taken_ok l arch).valid (objsB_all h).1 (archB_all h').1
 have hz := sumI_le4 (f := szOb) (c := 5000) (l := (taken l arch).all) fun o ho => objB_zs (List.all_eq_true.1 hv o ho)
 have h1 := (objsB_all h).2
 have h2 := (archB_all h').2
 have h3 := (taken_len (l := l) (arch := arch)).2
 omega
def allT (l : List Objt) (arch : List Member) (k : Int) : List Objt := l ++ ((takV l arch).take k.toNat).flatMap fun k => ((arch[k.toNat]?).map Member.what).toList
theorem allT_zero {l : List Objt} {arch : List Member} : allT l arch 0 = l := by simp [allT]
theorem allT_next {l : List Objt} {arch : List Member} {k n : Int} {m : Member} (hk : 0 ≤ k) (hn : (takV l arch)[k.toNat]? = some n) (hm : arch[n.toNat]? = some m) : allT l arch k ++ [m.what] = allT l arch (k + 1) := by
 unfold allT
 rw [toNat_succ hk, take_snoc hn, List.flatMap_append, List.append_assoc]
 simp [hm]
theorem allT_end {l : List Objt} {arch : List Member} {k : Int} (h : objsB l = true) (h' : archB arch = true) (hk : ((takV l arch).length : Int) ≤ k) : allT l arch k = (taken l arch).all := by
 unfold allT
 rw [List.take_of_length_le (by omega), takV_yes h h', (taken_ok l arch).all]
theorem takV_in {l : List Objt} {arch : List Member} {k n : Int} (h : (takV l arch)[k.toNat]? = some n) : 0 ≤ n ∧ n < arch.length := by
 have hm := List.mem_of_getElem? h
 cases ho : objsB l with
 | false => rw [takV_no (.inl ho)] at hm; cases hm
 | true =>
  cases ha : archB arch with
  | false => rw [takV_no (.inr ha)] at hm; cases hm
  | true => rw [takV_yes ho ha] at hm; exact (taken_ok l arch).rng n hm
theorem takV_ln (l : List Objt) (arch : List Member) : (takV l arch).length ≤ arch.length := by
 unfold takV
 split
 ·exact taken_len.1
 ·simp
theorem allT_len {l : List Objt} {arch : List Member} (k : Int) : (allT l arch k).length ≤ l.length + arch.length := by
 unfold allT
 have : ∀ m : List Int, (m.flatMap fun k => ((arch[k.toNat]?).map Member.what).toList).length ≤ m.length := fun m => by
  induction m with
  | nil => simp
  | cons k m ih =>
   simp only [List.flatMap_cons, List.length_append, List.length_cons]
   have : (((arch[k.toNat]?).map Member.what).toList).length ≤ 1 := by cases arch[k.toNat]? <;> simp
   omega
 have h1 := this ((takV l arch).take k.toNat)
 have h2 := takV_ln l arch
 rw [List.length_take] at h1
 rw [List.length_append]; omega
def C_impl_MemoryOf : Con := { ps := [.ro (.list (.st .obj)), .ro .i], out := fun x => let l : List (Objt) := x.1; let b : Int := x.2.1; newSB .mem (memOV l b) (memOB l b), det := true }
abbrev L_impl_MemoryOf : List (Nat × Con) := [(15, C_impl_Link), (78, C_impl_RegionsOf)]
def G_impl_MemoryOf : Cfg := GK L_impl_MemoryOf
def an_impl_MemoryOf : PTL C_impl_MemoryOf.ps → Nat → Option Ann := fun _ _ => none
theorem vc_impl_MemoryOf (l : List (Objt)) (b : Int) : (KP Tryz.f22 G_impl_MemoryOf C_impl_MemoryOf an_impl_MemoryOf (l, b, ())) = ((decide ((link l b).snd ≠ 0) = true →
 0 = (memOV l b).what.base ∧ false = memOB l b ∧ ([] : List Int) = (memOV l b).what.bytes ∧ ([] : List Region) = (memOV l b).regions ∧ True) ∧ (decide ((link l b).snd ≠ 0) = false →
 (link l b).fst.base = (memOV l b).what.base ∧ true = memOB l b ∧ (link l b).fst.bytes = (memOV l b).what.bytes ∧ regs (layout l b).ends 0 = (memOV l b).regions ∧ True)) := by kernel_rfl
theorem det_impl_MemoryOf : C_impl_MemoryOf.det = true → ∀ x, (C_impl_MemoryOf.out x).Det := fun _ _ => Det.ret _
theorem ok_impl_MemoryOf : ConOK Tryz.prog 22 C_impl_MemoryOf := by
 refine con_q (l := L_impl_MemoryOf) ⟨⟨ok_impl_Link, det_impl_Link⟩, ⟨⟨ok_impl_RegionsOf, det_impl_RegionsOf⟩, trivial⟩⟩ Tryz.func22 rfl (by decide) (by kernel_rfl) rfl an_impl_MemoryOf fun x ho hx => ?_
 obtain ⟨l, b, ⟨⟩⟩ := x
 refine Keeps.of (vc_impl_MemoryOf l b) ?_
 revert l b ho hx
 show ∀ (l : List (Objt)) (b : Int), _
 intro l b ho hx
 dsimp only [C_impl_MemoryOf, okPTL, okPT, Ok, Ty.cells, SN.cells, OkL, OkC, okI, ci, cb, cs, cl] at ho
 dsimp only [C_impl_MemoryOf, vc, v1, decB, SR.pre] at hx
 have h1 := @memOV_yes l b
 have h2 := @memOV_no l b
 (try delta i64 LN); simp only [VBt]; (repeat' first | intro _ | apply And.intro); all_goals (try omega); all_goals (try grind)
def C_spec_MemoryOf : Con := { ps := [.ro (.list (.st .obj)), .ro .i], out := fun x => let l : List (Objt) := x.1; let b : Int := x.2.1; .req (l.length + sumI szOb l ≤ 1048576) (newSB .mem (memOV l b) (memOB l b)), det := true }
abbrev L_spec_MemoryOf : List (Nat × Con) := [(58, C_spec_l1OwnObjectList), (13, C_spec_Link), (77, C_spec_RegionsOf)]
def G_spec_MemoryOf : Cfg := GK L_spec_MemoryOf
def an_spec_MemoryOf : PTL C_spec_MemoryOf.ps → Nat → Option Ann := fun _ _ => none
theorem vc_spec_MemoryOf (l : List (Objt)) (b : Int) : (KP Tryz.f21 G_spec_MemoryOf C_spec_MemoryOf an_spec_MemoryOf (l, b, ())) = (LN l + @sumI Objt szOb l ≤ 1048576 ∧ LN l + @sumI Objt szOb l ≤ 1048576 ∧ (decide ((link l b).snd ≠ 0) = true →
 0 = (memOV l b).what.base ∧ false = memOB l b ∧ ([] : List Int) = (memOV l b).what.bytes ∧ ([] : List Region) = (memOV l b).regions ∧ True) ∧ (decide ((link l b).snd ≠ 0) = false →
 LN l + @sumI Objt szOb l ≤ 1048576 ∧ (link l b).fst.base = (memOV l b).what.base ∧ true = memOB l b ∧ (link l b).fst.bytes = (memOV l b).what.bytes ∧ regs (layout l b).ends 0 = (memOV l b).regions ∧ True)) := by kernel_rfl
theorem det_spec_MemoryOf : C_spec_MemoryOf.det = true → ∀ x, (C_spec_MemoryOf.out x).Det := fun _ x => by simp only [C_spec_MemoryOf]; repeat (first | exact Det.ret _ | exact Det.vc' | apply Det.req)
theorem ok_spec_MemoryOf : ConOK Tryz.prog 21 C_spec_MemoryOf := by
 refine con_q (l := L_spec_MemoryOf) ⟨⟨ok_spec_l1OwnObjectList, det_spec_l1OwnObjectList⟩, ⟨⟨ok_spec_Link, det_spec_Link⟩, ⟨⟨ok_spec_RegionsOf, det_spec_RegionsOf⟩, trivial⟩⟩⟩ Tryz.func21 rfl (by decide) (by kernel_rfl) rfl an_spec_MemoryOf fun x ho hx => ?_
 obtain ⟨l, b, ⟨⟩⟩ := x
 refine Keeps.of (vc_spec_MemoryOf l b) ?_
 revert l b ho hx
 show ∀ (l : List (Objt)) (b : Int), _
 intro l b ho hx
 dsimp only [C_spec_MemoryOf, okPTL, okPT, Ok, Ty.cells, SN.cells, OkL, OkC, okI, ci, cb, cs, cl] at ho
 dsimp only [C_spec_MemoryOf, vc, v1, decB, SR.pre] at hx
 have h1 := @memOV_yes l b
 have h2 := @memOV_no l b
 (try delta i64 LN); simp only [VBt]; (repeat' first | intro _ | apply And.intro); all_goals (try omega); all_goals (try grind)
def C_impl_LinkArchive : Con := { ps := [.ro (.list (.st .obj)), .ro (.list (.st .member)), .ro .i], out := fun x => let l : List (Objt) := x.1; let arch : List (Member) := x.2.1; let b : Int := x.2.2.1; lnkR (lnkAV l arch b), det := true }
abbrev L_impl_LinkArchive : List (Nat × Con) := [(44, C_impl_ObjectsValid), (86, C_impl_ArchiveValid), (87, C_impl_taken), (15, C_impl_Link)]
def G_impl_LinkArchive : Cfg := GK L_impl_LinkArchive
def an_impl_LinkArchive : PTL C_impl_LinkArchive.ps → Nat → Option Ann := fun _ _ => none
theorem vc_impl_LinkArchive (l : List (Objt)) (arch : List (Member)) (b : Int) : (KP Tryz.f29 G_impl_LinkArchive C_impl_LinkArchive an_impl_LinkArchive (l, arch, b, ())) = ((Bool.not (objsB l) = true →
 0 = (lnkAV l arch b).fst.base ∧ (- (1 : Int)) = (lnkAV l arch b).snd ∧ ([] : List Int) = (lnkAV l arch b).fst.bytes ∧ True) ∧ (Bool.not (objsB l) = false →
 (Bool.not (archB arch) = true →
 0 = (lnkAV l arch b).fst.base ∧ (- (1 : Int)) = (lnkAV l arch b).snd ∧ ([] : List Int) = (lnkAV l arch b).fst.bytes ∧ True) ∧ (Bool.not (archB arch) = false →
 (@List.all Objt l objB = true ∧ l.length ≤ 100 ∧ archB arch = true) ∧ (link (taken l arch).all b).fst.base = (lnkAV l arch b).fst.base ∧ (link (taken l arch).all b).snd = (lnkAV l arch b).snd ∧ (link (taken l arch).all b).fst.bytes = (lnkAV l arch b).fst.bytes ∧ True))) := by kernel_rfl
theorem det_impl_LinkArchive : C_impl_LinkArchive.det = true → ∀ x, (C_impl_LinkArchive.out x).Det := fun _ _ => Det.ret _
theorem ok_impl_LinkArchive : ConOK Tryz.prog 29 C_impl_LinkArchive := by
 refine con_q (l := L_impl_LinkArchive) ⟨⟨ok_impl_ObjectsValid, det_impl_ObjectsValid⟩, ⟨⟨ok_impl_ArchiveValid, det_impl_ArchiveValid⟩, ⟨⟨ok_impl_taken, det_impl_taken⟩, ⟨⟨ok_impl_Link, det_impl_Link⟩, trivial⟩⟩⟩⟩ Tryz.func29 rfl (by decide) (by kernel_rfl) rfl an_impl_LinkArchive fun x ho hx => ?_
 obtain ⟨l, arch, b, ⟨⟩⟩ := x
 refine Keeps.of (vc_impl_LinkArchive l arch b) ?_
 revert l arch b ho hx
 show ∀ (l : List (Objt)) (arch : List (Member)) (b : Int), _
 intro l arch b ho hx
 dsimp only [C_impl_LinkArchive, okPTL, okPT, Ok, Ty.cells, SN.cells, OkL, OkC, okI, ci, cb, cs, cl] at ho
 dsimp only [C_impl_LinkArchive, vc, v1, decB, SR.pre] at hx
 have h := @objsB_all l
 have h1 := @lnkAV_yes l arch b
 have h2 := @lnkAV_no l arch b
 (try delta i64 LN); simp only [VBt]; (repeat' first | intro _ | apply And.intro); all_goals (try omega); all_goals (try grind)
def C_spec_LinkArchive : Con := { ps := [.ro (.list (.st .obj)), .ro (.list (.st .member)), .ro .i], out := fun x => let l : List (Objt) := x.1; let arch : List (Member) := x.2.1; let b : Int := x.2.2.1; .req (l.length + sumI szOb l ≤ 1048576 ∧ arch.length + sumI szMb arch ≤ 1048576) (lnkR (lnkAV l arch b)), det := true }
abbrev L_spec_LinkArchive : List (Nat × Con) := [(58, C_spec_l1OwnObjectList), (83, C_spec_l1OwnMemberList), (55, C_spec_ObjectsValid), (56, C_spec_ArchiveValid), (84, C_spec_TakeMembers), (13, C_spec_Link)]
def G_spec_LinkArchive : Cfg := GK L_spec_LinkArchive
def an_spec_LinkArchive : PTL C_spec_LinkArchive.ps → Nat → Option Ann := fun x kk_ => let l : List (Objt) := x.1; let arch : List (Member) := x.2.1; let b : Int := x.2.2.1; if kk_ = 8 then some (.all (Int) fun k => .giv (objsB l = true ∧ archB arch = true ∧ 0 ≤ k ∧ k ≤ (takV l arch).length) (.mk [(10, ai k), (1, al (.st .member) arch), (9, al .i (takV l arch)), (8, asl 20), (6, aref 30), (2, ai b)] [(30, .box false [.c (ci 0), .nil]), (20, .row none (.st .obj) (allT l arch k) false)] (((takV l arch).length - k.toNat)))) else if kk_ = 1003 then some (.mk [(0, al (.st .obj) l), (1, al (.st .member) arch), (2, ai b), (6, aref 30)] [(30, .box false [.c (ci 0), .nil])] (0)) else none
theorem vc_spec_LinkArchive (l : List (Objt)) (arch : List (Member)) (b : Int) : (KP Tryz.f27 G_spec_LinkArchive C_spec_LinkArchive an_spec_LinkArchive (l, arch, b, ())) = (LN l + @sumI Objt szOb l ≤ 1048576 ∧ LN arch + @sumI Member szMb arch ≤ 1048576 ∧ l = l ∧ arch = arch ∧ b = b ∧ (0 : Int) = (0 : Int) ∧ ((0 : Nat) = (0 : Nat) →
 (Bool.not (objsB l) = true →
 0 = (lnkAV l arch b).fst.base ∧ (- (1 : Int)) = (lnkAV l arch b).snd ∧ ([] : List Int) = (lnkAV l arch b).fst.bytes ∧ True) ∧ (Bool.not (objsB l) = false →
 (Bool.not (archB arch) = true →
 0 = (lnkAV l arch b).fst.base ∧ (- (1 : Int)) = (lnkAV l arch b).snd ∧ ([] : List Int) = (lnkAV l arch b).fst.bytes ∧ True) ∧ (Bool.not (archB arch) = false →
 ((0 + l.length) * 48 ≤ 140737488355328 ∧ 0 + l.length ≤ 1000000000000) ∧ (∃ (a : Int), 0 = a ∧ arch = arch ∧ takV l arch = takV l arch ∧ b = b ∧ (0 : Int) = (0 : Int) ∧ l = allT l arch a ∧ (objsB l = true ∧ archB arch = true ∧ 0 ≤ a ∧ a ≤ LN (takV l arch)) ∧ True) ∧ (∀ (c : Int), objsB l = true ∧ archB arch = true ∧ 0 ≤ c ∧ c ≤ LN (takV l arch) →
 (takV l arch).length ≤ 9223372036854775807 →
 (decide (c < LN (takV l arch)) = true →
 (0 ≤ c ∧ c < LN (takV l arch)) ∧ (∀ (d : Int), (takV l arch)[c.toNat]? = some d →
 Ok (Ty.int IntKind.i64) d →
 (0 ≤ d ∧ d < LN arch) ∧ (∀ (e : Member), arch[d.toNat]? = some e →
 Ok (Ty.st SN.member) e →
 (((allT l arch c).length + [e.what].length) * 48 ≤ 140737488355328 ∧ (allT l arch c).length + [e.what].length ≤ 1000000000000) ∧ i64 (c + 1) ∧ (∃ (f : Int), c + 1 = f ∧ arch = arch ∧ takV l arch = takV l arch ∧ b = b ∧ (0 : Int) = (0 : Int) ∧ allT l arch c ++ [e.what] = allT l arch f ∧ (objsB l = true ∧ archB arch = true ∧ 0 ≤ f ∧ f ≤ LN (takV l arch)) ∧ (takV l arch).length - f.toNat < (takV l arch).length - c.toNat)))) ∧ (decide (c < LN (takV l arch)) = false →
 LN (allT l arch c) + @sumI Objt szOb (allT l arch c) ≤ 1048576 ∧ (link (allT l arch c) b).fst.base = (lnkAV l arch b).fst.base ∧ (link (allT l arch c) b).snd = (lnkAV l arch b).snd ∧ (link (allT l arch c) b).fst.bytes = (lnkAV l arch b).fst.bytes ∧ True)))))) := by kernel_rfl
theorem det_spec_LinkArchive : C_spec_LinkArchive.det = true → ∀ x, (C_spec_LinkArchive.out x).Det := fun _ x => by simp only [C_spec_LinkArchive]; repeat (first | exact Det.ret _ | exact Det.vc' | apply Det.req)
theorem ok_spec_LinkArchive : ConOK Tryz.prog 27 C_spec_LinkArchive := by
 refine con_q (l := L_spec_LinkArchive) ⟨⟨ok_spec_l1OwnObjectList, det_spec_l1OwnObjectList⟩, ⟨⟨ok_spec_l1OwnMemberList, det_spec_l1OwnMemberList⟩, ⟨⟨ok_spec_ObjectsValid, det_spec_ObjectsValid⟩, ⟨⟨ok_spec_ArchiveValid, det_spec_ArchiveValid⟩, ⟨⟨ok_spec_TakeMembers, det_spec_TakeMembers⟩, ⟨⟨ok_spec_Link, det_spec_Link⟩, trivial⟩⟩⟩⟩⟩⟩ Tryz.func27 rfl (by decide) (by kernel_rfl) rfl an_spec_LinkArchive fun x ho hx => ?_
 obtain ⟨l, arch, b, ⟨⟩⟩ := x
 refine Keeps.of (vc_spec_LinkArchive l arch b) ?_
 revert l arch b ho hx
 show ∀ (l : List (Objt)) (arch : List (Member)) (b : Int), _
 intro l arch b ho hx
 dsimp only [C_spec_LinkArchive, okPTL, okPT, Ok, Ty.cells, SN.cells, OkL, OkC, okI, ci, cb, cs, cl] at ho
 dsimp only [C_spec_LinkArchive, vc, v1, decB, SR.pre] at hx
 have h := @objsB_all l
 have ha := @archB_all arch
 have h1 := @lnkAV_yes l arch b
 have h2 := @lnkAV_no l arch b
 have h3 := @allT_zero l arch
 have h4 := @allT_next l arch
 have h5 := @allT_end l arch
 have h6 := @takV_in l arch
 have h7 := takV_ln l arch
 have h8 := fun k => @allT_len l arch k
 have h9 := @taken_sz l arch
 (try delta i64 LN); simp only [VBt]; (repeat' first | intro _ | apply And.intro); all_goals (try omega); all_goals (try grind)
end Go.Proofs.YtfdngmkmeeaeeaaGreat
