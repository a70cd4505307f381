/- The readers of images, memories and patches. -/
import Derived.Test.YtjlgnbdncbcnjaaImg
import Derived.Test.YtjlgnbdncbcnjaaObjD
set_option linter.unusedVariables false
set_option linter.unusedSimpArgs false
namespace Go.Proofs.Ytjlgnbdncbcnjaa
open Go Go.RowKit


theorem ex_img {a : Int} {b : List Int} {P : Img → Prop} : (∃ x : Img, a = x.base ∧ b = x.bytes ∧ P x) ↔ P ⟨a, b⟩ := ⟨fun ⟨x, h1, h2, h3⟩ => by subst h1; subst h2; exact h3, fun h => ⟨_, rfl, rfl, h⟩⟩
theorem ex_mem {a : Int} {b : List Int} {c : List Region} {P : Memo → Prop} : (∃ x : Memo, a = x.what.base ∧ b = x.what.bytes ∧ c = x.regions ∧ P x) ↔ P ⟨⟨a, b⟩, c⟩ := ⟨fun ⟨x, h1, h2, h3, h4⟩ => by subst h1; subst h2; subst h3; exact h4, fun h => ⟨_, rfl, rfl, rfl, h⟩⟩
theorem ex_pat {a : Int} {b : List Int} {P : Patch → Prop} : (∃ x : Patch, a = x.at_ ∧ b = x.bytes ∧ P x) ↔ P ⟨a, b⟩ := ⟨fun ⟨x, h1, h2, h3⟩ => by subst h1; subst h2; exact h3, fun h => ⟨_, rfl, rfl, h⟩⟩
theorem ex_fix {a b c d : Int} {P : Fixup → Prop} : (∃ x : Fixup, a = x.at_ ∧ b = x.kind ∧ c = x.to ∧ d = x.add ∧ P x) ↔ P ⟨a, b, c, d⟩ := ⟨fun ⟨x, h1, h2, h3, h4, h5⟩ => by subst h1; subst h2; subst h3; subst h4; exact h5, fun h => ⟨_, rfl, rfl, rfl, rfl, h⟩⟩
theorem ex_hash {a : List ByteArray} {b c : List Int} {P : HashT → Prop} : (∃ x : HashT, a = x.names ∧ b = x.first ∧ c = x.next ∧ P x) ↔ P ⟨a, b, c⟩ := ⟨fun ⟨x, h1, h2, h3, h4⟩ => by subst h1; subst h2; subst h3; exact h4, fun h => ⟨_, rfl, rfl, rfl, h⟩⟩
theorem ex_obj {a : List Sect} {b : List Sym} {P : Objt → Prop} : (∃ x : Objt, a = x.sects ∧ b = x.syms ∧ P x) ↔ P ⟨a, b⟩ := ⟨fun ⟨x, h1, h2, h3⟩ => by subst h1; subst h2; exact h3, fun h => ⟨_, rfl, rfl, h⟩⟩
theorem ex_sym {a : ByteArray} {b c d : Int} {P : Sym → Prop} : (∃ x : Sym, a = x.name ∧ b = x.bind ∧ c = x.wher ∧ d = x.value ∧ P x) ↔ P ⟨a, b, c, d⟩ := ⟨fun ⟨x, h1, h2, h3, h4, h5⟩ => by subst h1; subst h2; subst h3; subst h4; exact h5, fun h => ⟨_, rfl, rfl, rfl, rfl, h⟩⟩
theorem ex_sect {a : ByteArray} {b c e : Int} {d : List Int} {f : List Fixup} {P : Sect → Prop} : (∃ x : Sect, a = x.name ∧ b = x.kind ∧ c = x.align ∧ d = x.bytes ∧ e = x.size ∧ f = x.fixups ∧ P x) ↔ P ⟨a, b, c, d, e, f⟩ := ⟨fun ⟨x, h1, h2, h3, h4, h5, h6, h7⟩ => by subst h1; subst h2; subst h3; subst h4; subst h5; subst h6; exact h7, fun h => ⟨_, rfl, rfl, rfl, rfl, rfl, rfl, h⟩⟩
theorem ex_member {a : ByteArray} {b : List Sect} {c : List Sym} {P : Member → Prop} : (∃ x : Member, a = x.name ∧ b = x.what.sects ∧ c = x.what.syms ∧ P x) ↔ P ⟨a, ⟨b, c⟩⟩ := ⟨fun ⟨x, h1, h2, h3, h4⟩ => by subst h1; subst h2; subst h3; exact h4, fun h => ⟨_, rfl, rfl, rfl, h⟩⟩
theorem ex_given {a b : Int} {P : Given → Prop} : (∃ x : Given, a = x.in_ ∧ b = x.at_ ∧ P x) ↔ P ⟨a, b⟩ := ⟨fun ⟨x, h1, h2, h3⟩ => by subst h1; subst h2; exact h3, fun h => ⟨_, rfl, rfl, h⟩⟩
theorem eta_hash (x : HashT) : HashT.mk x.names x.first x.next = x := rfl
theorem eta_obj (x : Objt) : Objt.mk x.sects x.syms = x := rfl
theorem eta_sym (x : Sym) : Sym.mk x.name x.bind x.wher x.value = x := rfl
theorem eta_sect (x : Sect) : Sect.mk x.name x.kind x.align x.bytes x.size x.fixups = x := rfl
theorem eta_member (x : Member) : Member.mk x.name ⟨x.what.sects, x.what.syms⟩ = x := rfl
theorem eta_given (x : Given) : Given.mk x.in_ x.at_ = x := rfl
theorem eta_img (x : Img) : Img.mk x.base x.bytes = x := rfl
theorem eta_mem (x : Memo) : Memo.mk ⟨x.what.base, x.what.bytes⟩ x.regions = x := rfl
def rdV (v : AV) (p : Int) : SR := .ret { val := v, wr := [(0, 1, .c (ci p))] }
def rdE (e : TypeId) (t : Ty) (l : List t.den) (p : Int) : SR := .ret { val := .one (.sl 100 []), ins := [(100, .row (some e) t l true)], wr := [(0, 1, .c (ci p))] }
def rdF (e : TypeId) (t : Ty) (l : List t.den) (p : Int) : SR := .ret { val := .one (.sl 100 []), ins := [(100, .row (some e) t l false)], wr := [(0, 1, .c (ci p))] }
def rdL (t : Ty) (l : List t.den) (p : Int) : SR := .ret { val := .one (.sl 100 []), ins := [(100, .row none t l true)], wr := [(0, 1, .c (ci p))] }
def rdS (s : SN) (x : s.den) (p : Int) : SR := .ret { val := .agg (encO 100 (s.cells x)).1, ins := (encO 100 (s.cells x)).2.1, wr := [(0, 1, .c (ci p))] }
def byB (l : List Int) : Prop := l.all (fun x => decide (0 ≤ x ∧ x ≤ 255)) = true
instance (l : List Int) : Decidable (byB l) := by unfold byB; infer_instance
theorem byB_mem {l : List Int} {x : Int} (h : byB l) (hx : x ∈ l) : 0 ≤ x ∧ x ≤ 255 := of_decide_eq_true (List.all_eq_true.1 h x hx)
theorem byB_nil : byB [] := rfl
theorem byB_app {l : List Int} {x : Int} (h : byB l) (h0 : 0 ≤ x) (h1 : x ≤ 255) : byB (l ++ [x]) := by
  unfold byB at *
  rw [List.all_append, h]
  simp [h0, h1]
theorem repl_len {α : Type} (n : Int) (x : α) : (repl n x).length = n.toNat := by simp [repl]
theorem byB_repl (n : Int) : byB (repl n 0) := List.all_eq_true.2 fun y hy => by
  rw [List.eq_of_mem_replicate hy]
  rfl
def imgBd (m : Img) : Prop := decide (-8 ≤ m.base ∧ m.base ≤ 4104 ∧ m.bytes.length ≤ 2001 ∧ byB m.bytes) = true
theorem imgBd_iff {m : Img} : imgBd m ↔ -8 ≤ m.base ∧ m.base ≤ 4104 ∧ m.bytes.length ≤ 2001 ∧ byB m.bytes := decide_eq_true_iff
instance (m : Img) : Decidable (imgBd m) := by unfold imgBd; infer_instance
def memBd (m : Memo) : Prop := decide (imgBd m.what ∧ m.regions.length ≤ 4) = true
theorem memBd_iff {m : Memo} : memBd m ↔ imgBd m.what ∧ m.regions.length ≤ 4 := decide_eq_true_iff
def patE (q : Patch) : Prop := q.bytes.length ≤ 4 ∧ byB q.bytes ∧ -1000 ≤ q.at_ ∧ q.at_ ≤ 10000
instance (q : Patch) : Decidable (patE q) := by unfold patE byB; infer_instance
def patA (l : List Patch) : Prop := l.all (fun q => decide (patE q)) = true
theorem patA_mem {l : List Patch} {q : Patch} (h : patA l) (hq : q ∈ l) : patE q := of_decide_eq_true (List.all_eq_true.1 h q hq)
theorem patA_nil : patA [] := rfl
theorem patA_app {l : List Patch} {x : Patch} (h : patA l) (hx : patE x) : patA (l ++ [x]) := by
  unfold patA at *
  rw [List.all_append, h]
  simp [hx]
theorem pat_pick {a b c : Int} {x y : Patch} {k : Nat} (hx : x = ⟨a, []⟩ ∨ x = ⟨b, [1]⟩ ∨ x = ⟨c, [1]⟩) (hy : [(⟨a, []⟩ : Patch), ⟨b, [1]⟩, ⟨c, [1]⟩][k]? = some y) (ha : -1000 ≤ a ∧ a ≤ 10000) (hb : -1000 ≤ b ∧ b ≤ 10000) (hc : -1000 ≤ c ∧ c ≤ 10000) : patE ⟨x.at_, y.bytes⟩ := by
  replace hy := List.mem_of_getElem? hy
  simp only [List.mem_cons, List.not_mem_nil, or_false] at hy
  have e2 : y.bytes = [] ∨ y.bytes = [1] := by rcases hy with rfl | rfl | rfl <;> simp
  have e1 : -1000 ≤ x.at_ ∧ x.at_ ≤ 10000 := by rcases hx with rfl | rfl | rfl <;> assumption
  refine ⟨?_, ?_, e1.1, e1.2⟩
  · show y.bytes.length ≤ 4
    rcases e2 with e | e <;> simp [e]
  · show byB y.bytes
    rcases e2 with e | e <;> (rw [e]; decide)
def patBd (l : List Patch) : Prop := l.length ≤ 5 ∧ patA l

def C_spec_l20Name : Con := { ps := [.box (.ty (.st .reader)), .ro .i], out := fun x => let r : Reader := x.1; let n : Int := x.2.1; .req (0 ≤ r.p ∧ r.p ≤ 1000000000 ∧ n ≤ 1000000) (.all ByteArray fun s => .all Int fun p => .giv (r.p ≤ p ∧ p ≤ r.p + 3 ∧ s.size ≤ 16 ∧ (n ≤ 0 → nameB s = true)) (rdV (ax s) p)), det := false }
def G_spec_l20Name : Cfg := mkG (tyL [(3, .i), (5, .u), (4, .bool), (9, .str), (80, .int .u64), (26, .st .hash), (24, .list .i), (22, .list .str), (38, .list .u), (33, .st .hash)]) [(49, C_spec_l20Rd_odd), (50, C_spec_l20Rd_pick)] false
def an_spec_l20Name : PTL C_spec_l20Name.ps → Nat → Option Ann := fun _ _ => none
set_option maxRecDepth 200000 in
theorem vc_spec_l20Name (r : Reader) (n : Int) : (keeps Try.prog G_spec_l20Name (an_spec_l20Name (r, n, ())) (Try.f55.body.getD .skip) Try.f55.results.toList C_spec_l20Name (r, n, ())) = (((((0 : Int) ≤ (Reader.p r)) ∧
 (((Reader.p r) ≤ (1000000000000 : Int)) ∧
 (n ≤ (1000000 : Int)))) ∧
 (∀ (x_1 : Bool), (∀ (x_2 : Int), ((((Reader.p r) ≤ x_2) ∧
 ((x_2 ≤ ((Reader.p r) + (1 : Int))) ∧
 ((n ≤ (0 : Int)) →
 (x_1 = false)))) →
 (((x_1 = true) →
 ((((0 : Int) ≤ x_2) ∧
 (x_2 ≤ (1000000000000 : Int))) ∧
 ((((0 : Int) ≤ (pickF (Reader.b r) x_2 (6 : Int))) ∧
 ((pickF (Reader.b r) x_2 (6 : Int)) < (@Nat.cast Int _ (6 : Nat)))) ∧
 (∀ (x_3 : ByteArray), ((@Eq (Option ByteArray) ([(ByteArray.mk (@Array.mk UInt8 ([] : List UInt8))), (ByteArray.mk (@Array.mk UInt8 [(65 : UInt8)])), (ByteArray.mk (@Array.mk UInt8 [(49 : UInt8), (97 : UInt8)])), (ByteArray.mk (@Array.mk UInt8 [(97 : UInt8), (98 : UInt8), (99 : UInt8), (100 : UInt8), (101 : UInt8), (102 : UInt8), (103 : UInt8), (104 : UInt8), (105 : UInt8)])), (ByteArray.mk (@Array.mk UInt8 [(97 : UInt8), (32 : UInt8), (98 : UInt8)])), (ByteArray.mk (@Array.mk UInt8 [(97 : UInt8), (45 : UInt8), (98 : UInt8)]))])[(Int.toNat (pickF (Reader.b r) x_2 (6 : Int)))]? (some x_3)) →
 ((Ok Ty.str x_3) →
 (∃ (x_4 : ByteArray), (∃ (x_5 : Int), (((@Eq ByteArray x_3 x_4) ∧
 ((@Eq (List Int) (Reader.b r) (Reader.b r)) ∧
 (((x_2 + (1 : Int)) = x_5) ∧
 True))) ∧
 (((Reader.p r) ≤ x_5) ∧
 ((x_5 ≤ ((Reader.p r) + (3 : Int))) ∧
 (((ByteArray.size x_4) ≤ (16 : Nat)) ∧
 ((n ≤ (0 : Int)) →
 ((nameB x_4) = true)))))))))))))) ∧
 ((x_1 = false) →
 ((((0 : Int) ≤ x_2) ∧
 (x_2 ≤ (1000000000000 : Int))) ∧
 ((((0 : Int) ≤ (pickF (Reader.b r) x_2 (10 : Int))) ∧
 ((pickF (Reader.b r) x_2 (10 : Int)) < (@Nat.cast Int _ (10 : Nat)))) ∧
 (∀ (x_6 : ByteArray), ((@Eq (Option ByteArray) ([(ByteArray.mk (@Array.mk UInt8 [(109 : UInt8), (97 : UInt8), (105 : UInt8), (110 : UInt8)])), (ByteArray.mk (@Array.mk UInt8 [(105 : UInt8), (110 : UInt8)])), (ByteArray.mk (@Array.mk UInt8 [(99 : UInt8), (111 : UInt8), (100 : UInt8), (101 : UInt8)])), (ByteArray.mk (@Array.mk UInt8 [(100 : UInt8), (97 : UInt8), (116 : UInt8), (97 : UInt8)])), (ByteArray.mk (@Array.mk UInt8 [(95 : UInt8), (115 : UInt8), (116 : UInt8), (97 : UInt8), (114 : UInt8), (116 : UInt8)])), (ByteArray.mk (@Array.mk UInt8 [(97 : UInt8), (114 : UInt8), (116 : UInt8)])), (ByteArray.mk (@Array.mk UInt8 [(116 : UInt8)])), (ByteArray.mk (@Array.mk UInt8 [(120 : UInt8), (49 : UInt8)])), (ByteArray.mk (@Array.mk UInt8 [(46 : UInt8), (116 : UInt8), (101 : UInt8), (120 : UInt8), (116 : UInt8)])), (ByteArray.mk (@Array.mk UInt8 [(112 : UInt8), (117 : UInt8), (116 : UInt8), (115 : UInt8)]))])[(Int.toNat (pickF (Reader.b r) x_2 (10 : Int)))]? (some x_6)) →
 ((Ok Ty.str x_6) →
 (∃ (x_7 : ByteArray), (∃ (x_8 : Int), (((@Eq ByteArray x_6 x_7) ∧
 ((@Eq (List Int) (Reader.b r) (Reader.b r)) ∧
 (((x_2 + (1 : Int)) = x_8) ∧
 True))) ∧
 (((Reader.p r) ≤ x_8) ∧
 ((x_8 ≤ ((Reader.p r) + (3 : Int))) ∧
 (((ByteArray.size x_7) ≤ (16 : Nat)) ∧
 ((n ≤ (0 : Int)) →
 ((nameB x_7) = true)))))))))))))))))))) := by kernel_rfl
theorem det_spec_l20Name : C_spec_l20Name.det = true → ∀ x, (C_spec_l20Name.out x).Det := fun h => absurd h Bool.false_ne_true
set_option maxRecDepth 200000 in
set_option maxHeartbeats 1000000 in
theorem ok_spec_l20Name : ConOK Try.prog 55 C_spec_l20Name := by
  refine con_mk (wr := false) (ty := tyL [(3, .i), (5, .u), (4, .bool), (9, .str), (80, .int .u64), (26, .st .hash), (24, .list .i), (22, .list .str), (38, .list .u), (33, .st .hash)]) (l := [(49, C_spec_l20Rd_odd), (50, C_spec_l20Rd_pick)]) ⟨⟨ok_spec_l20Rd_odd, det_spec_l20Rd_odd⟩, ⟨⟨ok_spec_l20Rd_pick, det_spec_l20Rd_pick⟩, trivial⟩⟩ Try.checked.mixed (fn := Try.f55) (body := Try.f55.body.getD .skip) Try.func55 rfl (by decide) (by kernel_rfl) rfl an_spec_l20Name fun x ho hx => ?_
  obtain ⟨r, n, ⟨⟩⟩ := x
  refine Keeps.of (vc_spec_l20Name r n) ?_
  revert r n ho hx
  show ∀ (r : Reader) (n : Int), _
  intro r n ho hx
  dsimp only [C_spec_l20Name, okPTL, okPT, Ok, Ty.cells, SN.cells, OkL, OkC, okI, ci, cb, cs, cl] at ho
  dsimp only [C_spec_l20Name, vc, v1, decB, SR.pre] at hx
  have hb := pickF_bd r.b
  simp only [decide_eq_true_eq, decide_eq_false_iff_not, Bool.not_eq_true', Bool.not_eq_false', and_true, true_and, and_assoc, Int.toNat_natCast, exists_eq_left', exists_eq_left, exists_and_left, Int.not_lt, Int.not_le, Bool.false_eq_true, false_implies, implies_true, forall_const, List.length_append, List.length_cons, List.length_nil, Int.sub_add_cancel, Int.add_sub_cancel, and_imp, ex_img, ex_mem, ex_fix, ex_pat, ex_hash, ex_obj, ex_sym, ex_sect, ex_member, ex_given, eta_hash, eta_obj, eta_sym, eta_sect, eta_member, eta_given, eta_img, eta_mem, forall_eq', forall_eq]; (repeat' first | apply And.intro | (intro x hq _; replace hq := List.mem_of_getElem? hq; simp only [List.mem_cons, List.not_mem_nil, or_false] at hq) | intro _); all_goals (try omega)
  all_goals first | grind | (rcases hq with rfl | rfl | rfl | rfl | rfl | rfl | rfl | rfl | rfl | rfl <;> decide) | (rcases hq with rfl | rfl | rfl | rfl | rfl | rfl <;> decide)
end Go.Proofs.Ytjlgnbdncbcnjaa
