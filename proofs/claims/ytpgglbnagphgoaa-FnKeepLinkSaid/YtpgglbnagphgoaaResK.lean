/- Names that are given, wanted, missing, given twice: both packages keep the same contracts. -/
import Derived.Test.YtpgglbnagphgoaaLayDK
import Derived.Test.YtpgglbnagphgoaaObjVK
import Derived.Test.YtpgglbnagphgoaaNamSK
set_option linter.unusedVariables false
set_option linter.unusedSimpArgs false
set_option maxRecDepth 200000
set_option maxHeartbeats 4000000
namespace Go.Proofs.Ytpgglbnagphgoaa
open Go Go.RowKit


def gvR (o : Option Given) : SR := .ret { val := .tup [(true, (SN.cells .given (o.getD ⟨0, 0⟩)).map .c), (false, [.c (cb o.isSome)])] }
theorem fnd_if (l : List Objt) (n : ByteArray) : fnd l n = if (fbO n 1 l 0).isSome = true then fbO n 1 l 0 else fbO n 2 l 0 := by
 unfold fnd
 cases fbO n 1 l 0 <;> simp
theorem fbO_step {n : ByteArray} {b : Int} {l : List Objt} {k : Int} {o : Objt} (hk : 0 ≤ k) (h : l[k.toNat]? = some o) : fbO n b (l.drop k.toNat) k = if 0 ≤ ixF (bdS n b) o.syms 0 then some ⟨k, ixF (bdS n b) o.syms 0⟩ else fbO n b (l.drop (k + 1).toNat) (k + 1) := by
 rw [drop_get' h hk]; rfl
theorem fbO_end {n : ByteArray} {b : Int} {l : List Objt} {k : Int} (h : (l.length : Int) ≤ k) : fbO n b (l.drop k.toNat) k = none := by rw [drop_end h]; rfl
theorem ixF_at {α : Type} {p : α → Bool} {l : List α} {j : Int} {x : α} (hj : 0 ≤ j) (h : l[j.toNat]? = some x) : ixF p (l.drop j.toNat) j = if p x = true then j else ixF p (l.drop (j + 1).toNat) (j + 1) := by
 rw [drop_get' h hj]; rfl
theorem ixF_end {α : Type} {p : α → Bool} {l : List α} {j : Int} (h : (l.length : Int) ≤ j) : ixF p (l.drop j.toNat) j = -1 := by rw [drop_end h]; rfl
def C_impl_findBound : Con := { ps := [.ro (.list (.st .obj)), .ro .str, .ro .i], out := fun x => let l : List (Objt) := x.1; let n : ByteArray := x.2.1; let b : Int := x.2.2.1; .req (l.all objB = true) (gvR (fbO n b l 0)), det := true }
abbrev L_impl_findBound : List (Nat × Con) := []
def G_impl_findBound : Cfg := GK L_impl_findBound
def an_impl_findBound : PTL C_impl_findBound.ps → Nat → Option Ann := fun x kk_ => let l : List (Objt) := x.1; let n : ByteArray := x.2.1; let b : Int := x.2.2.1; if kk_ = 2 then some (.all (Int) fun k => .giv (0 ≤ k ∧ k ≤ l.length ∧ fbO n b l 0 = fbO n b (l.drop k.toNat) k) (.mk [(14, ai k), (6, aref 30), (1, ax n), (2, ai b), (12, al (.st .obj) l), (13, ai (List.length l))] [(30, bx (ast .given ⟨0, 0⟩))] ((l.length - k.toNat)))) else if kk_ = 2005 then some (.all (Int) fun k => .all (Int) fun j => .giv (0 ≤ k ∧ k < l.length ∧ 0 ≤ j ∧ j ≤ (symsAt l k).length ∧ fbO n b l 0 = fbO n b (l.drop k.toNat) k ∧ ixF (bdS n b) (symsAt l k) 0 = ixF (bdS n b) ((symsAt l k).drop j.toNat) j) (.mk [(14, ai k), (22, ai j), (8, ai k), (20, al (.st .sym) (symsAt l k)), (21, ai (symsAt l k).length), (6, aref 30), (1, ax n), (2, ai b), (12, al (.st .obj) l), (13, ai (List.length l))] [(30, bx (ast .given ⟨0, 0⟩))] ((l.length - k.toNat) * 1000 + (100 - j).toNat))) else none
theorem vc_impl_findBound (l : List (Objt)) (n : ByteArray) (b : Int) : (KP Try.f119 G_impl_findBound C_impl_findBound an_impl_findBound (l, n, b, ())) = (l.length ≤ 9223372036854775807 →
 (∃ (a : Int), 0 = a ∧ n = n ∧ b = b ∧ l = l ∧ LN l = LN l ∧ (0 : Int) = (0 : Int) ∧ (0 : Int) = (0 : Int) ∧ (0 ≤ a ∧ a ≤ LN l ∧ fbO n b l 0 = fbO n b (l.drop a.toNat) a) ∧ True) ∧ (∀ (c : Int), 0 ≤ c ∧ c ≤ LN l ∧ fbO n b l 0 = fbO n b (l.drop c.toNat) c →
 (decide (c < LN l) = true →
 (0 ≤ c ∧ c < LN l) ∧ (∀ (d : Objt), l[c.toNat]? = some d →
 Ok (Ty.st SN.obj) d →
 d.syms.length ≤ 9223372036854775807 →
 (∃ (e : Int), (∃ (f : Int), c = e ∧ 0 = f ∧ c = e ∧ d.syms = symsAt l e ∧ LN d.syms = LN (symsAt l e) ∧ n = n ∧ b = b ∧ l = l ∧ LN l = LN l ∧ (0 : Int) = (0 : Int) ∧ (0 : Int) = (0 : Int) ∧ (0 ≤ e ∧ e < LN l ∧ 0 ≤ f ∧ f ≤ LN (symsAt l e) ∧ fbO n b l 0 = fbO n b (l.drop e.toNat) e ∧ @ixF Sym (bdS n b) (symsAt l e) (0 : Int) = @ixF Sym (bdS n b) ((symsAt l e).drop f.toNat) f) ∧ (∀ (g : Int), (∀ (h : Int), 0 ≤ g ∧ g < LN l ∧ 0 ≤ h ∧ h ≤ LN (symsAt l g) ∧ fbO n b l 0 = fbO n b (l.drop g.toNat) g ∧ @ixF Sym (bdS n b) (symsAt l g) (0 : Int) = @ixF Sym (bdS n b) ((symsAt l g).drop h.toNat) h →
 (l.length - g.toNat) * 1000 + (100 - h).toNat ≤ (l.length - e.toNat) * 1000 + (100 - f).toNat →
 (decide (h < LN (symsAt l g)) = true →
 (0 ≤ h ∧ h < LN (symsAt l g)) ∧ (∀ (i : Sym), (symsAt l g)[h.toNat]? = some i →
 Ok (Ty.st SN.sym) i →
 (decide (i.name = n) = true →
 (decide (i.bind = b) = true →
 (decide (i.wher ≠ (- (1 : Int))) = true →
 g = (@Option.getD Given (fbO n b l 0) (Given.mk 0 0)).in_ ∧ h = (@Option.getD Given (fbO n b l 0) (Given.mk 0 0)).at_ ∧ true = @Option.isSome Given (fbO n b l 0) ∧ True) ∧ (decide (i.wher ≠ (- (1 : Int))) = false →
 i64 (h + 1) ∧ (∃ (j : Int), (∃ (k : Int), g = j ∧ h + 1 = k ∧ g = j ∧ symsAt l g = symsAt l j ∧ LN (symsAt l g) = LN (symsAt l j) ∧ n = n ∧ b = b ∧ l = l ∧ LN l = LN l ∧ (0 : Int) = (0 : Int) ∧ (0 : Int) = (0 : Int) ∧ (0 ≤ j ∧ j < LN l ∧ 0 ≤ k ∧ k ≤ LN (symsAt l j) ∧ fbO n b l 0 = fbO n b (l.drop j.toNat) j ∧ @ixF Sym (bdS n b) (symsAt l j) (0 : Int) = @ixF Sym (bdS n b) ((symsAt l j).drop k.toNat) k) ∧ (l.length - j.toNat) * 1000 + (100 - k).toNat < (l.length - g.toNat) * 1000 + (100 - h).toNat)))) ∧ (decide (i.bind = b) = false →
 i64 (h + 1) ∧ (∃ (m : Int), (∃ (o : Int), g = m ∧ h + 1 = o ∧ g = m ∧ symsAt l g = symsAt l m ∧ LN (symsAt l g) = LN (symsAt l m) ∧ n = n ∧ b = b ∧ l = l ∧ LN l = LN l ∧ (0 : Int) = (0 : Int) ∧ (0 : Int) = (0 : Int) ∧ (0 ≤ m ∧ m < LN l ∧ 0 ≤ o ∧ o ≤ LN (symsAt l m) ∧ fbO n b l 0 = fbO n b (l.drop m.toNat) m ∧ @ixF Sym (bdS n b) (symsAt l m) (0 : Int) = @ixF Sym (bdS n b) ((symsAt l m).drop o.toNat) o) ∧ (l.length - m.toNat) * 1000 + (100 - o).toNat < (l.length - g.toNat) * 1000 + (100 - h).toNat)))) ∧ (decide (i.name = n) = false →
 i64 (h + 1) ∧ (∃ (p : Int), (∃ (q : Int), g = p ∧ h + 1 = q ∧ g = p ∧ symsAt l g = symsAt l p ∧ LN (symsAt l g) = LN (symsAt l p) ∧ n = n ∧ b = b ∧ l = l ∧ LN l = LN l ∧ (0 : Int) = (0 : Int) ∧ (0 : Int) = (0 : Int) ∧ (0 ≤ p ∧ p < LN l ∧ 0 ≤ q ∧ q ≤ LN (symsAt l p) ∧ fbO n b l 0 = fbO n b (l.drop p.toNat) p ∧ @ixF Sym (bdS n b) (symsAt l p) (0 : Int) = @ixF Sym (bdS n b) ((symsAt l p).drop q.toNat) q) ∧ (l.length - p.toNat) * 1000 + (100 - q).toNat < (l.length - g.toNat) * 1000 + (100 - h).toNat))))) ∧ (decide (h < LN (symsAt l g)) = false →
 i64 (g + 1) ∧ (∃ (r : Int), g + 1 = r ∧ n = n ∧ b = b ∧ l = l ∧ LN l = LN l ∧ (0 : Int) = (0 : Int) ∧ (0 : Int) = (0 : Int) ∧ (0 ≤ r ∧ r ≤ LN l ∧ fbO n b l 0 = fbO n b (l.drop r.toNat) r) ∧ l.length - r.toNat < l.length - c.toNat)))))))) ∧ (decide (c < LN l) = false →
 0 = (@Option.getD Given (fbO n b l 0) (Given.mk 0 0)).in_ ∧ 0 = (@Option.getD Given (fbO n b l 0) (Given.mk 0 0)).at_ ∧ false = @Option.isSome Given (fbO n b l 0) ∧ True))) := by kernel_rfl
theorem det_impl_findBound : C_impl_findBound.det = true → ∀ x, (C_impl_findBound.out x).Det := fun _ x => by simp only [C_impl_findBound]; repeat (first | exact Det.ret _ | exact Det.vc' | apply Det.req | apply Det.giv | apply Det.fork | apply Det.bif' | intro _)
theorem ok_impl_findBound : ConOK Try.prog 119 C_impl_findBound := by
 refine con_q (l := L_impl_findBound) trivial Try.func119 rfl (by decide) (by kernel_rfl) rfl an_impl_findBound fun x ho hx => ?_
 obtain ⟨l, n, b, ⟨⟩⟩ := x
 refine Keeps.of (vc_impl_findBound l n b) ?_
 revert l n b ho hx
 show ∀ (l : List (Objt)) (n : ByteArray) (b : Int), _
 intro l n b ho hx
 dsimp only [C_impl_findBound, okPTL, okPT, Ok, Ty.cells, SN.cells, OkL, OkC, okI, ci, cb, cs, cl] at ho
 dsimp only [C_impl_findBound, vc, v1, decB, SR.pre] at hx
 have hs := @symsAt_eq l
 have hy := @symsAt_len l hx.1
 have h1 := @fbO_step n b l
 have h2 := @fbO_end n b l
 have h3 := fun k j => @ixF_at _ (bdS n b) (symsAt l k) j
 have h4 := fun k j => @ixF_end _ (bdS n b) (symsAt l k) j
 (try delta i64 LN); simp only [VBt]; (repeat' first | intro _ | apply And.intro); all_goals (try omega)
 all_goals (try grind [bdS])
def C_impl_findName : Con := { ps := [.ro (.list (.st .obj)), .ro .str], out := fun x => let l : List (Objt) := x.1; let n : ByteArray := x.2.1; .req (l.all objB = true) (gvR (fnd l n)), det := true }
abbrev L_impl_findName : List (Nat × Con) := [(119, C_impl_findBound)]
def G_impl_findName : Cfg := GK L_impl_findName
def an_impl_findName : PTL C_impl_findName.ps → Nat → Option Ann := fun _ _ => none
theorem vc_impl_findName (l : List (Objt)) (n : ByteArray) : (KP Try.f92 G_impl_findName C_impl_findName an_impl_findName (l, n, ())) = (@List.all Objt l objB = true ∧ (@Option.isSome Given (fbO n 1 l 0) = true →
 (@Option.getD Given (fbO n 1 l 0) (Given.mk 0 0)).in_ = (@Option.getD Given (fnd l n) (Given.mk 0 0)).in_ ∧ (@Option.getD Given (fbO n 1 l 0) (Given.mk 0 0)).at_ = (@Option.getD Given (fnd l n) (Given.mk 0 0)).at_ ∧ true = @Option.isSome Given (fnd l n) ∧ True) ∧ (@Option.isSome Given (fbO n 1 l 0) = false →
 @List.all Objt l objB = true ∧ (@Option.getD Given (fbO n 2 l 0) (Given.mk 0 0)).in_ = (@Option.getD Given (fnd l n) (Given.mk 0 0)).in_ ∧ (@Option.getD Given (fbO n 2 l 0) (Given.mk 0 0)).at_ = (@Option.getD Given (fnd l n) (Given.mk 0 0)).at_ ∧ @Option.isSome Given (fbO n 2 l 0) = @Option.isSome Given (fnd l n) ∧ True)) := by kernel_rfl
theorem det_impl_findName : C_impl_findName.det = true → ∀ x, (C_impl_findName.out x).Det := fun _ x => by simp only [C_impl_findName]; repeat (first | exact Det.ret _ | exact Det.vc' | apply Det.req | apply Det.giv | apply Det.fork | apply Det.bif' | intro _)
theorem ok_impl_findName : ConOK Try.prog 92 C_impl_findName := by
 refine con_q (l := L_impl_findName) ⟨⟨ok_impl_findBound, det_impl_findBound⟩, trivial⟩ Try.func92 rfl (by decide) (by kernel_rfl) rfl an_impl_findName fun x ho hx => ?_
 obtain ⟨l, n, ⟨⟩⟩ := x
 refine Keeps.of (vc_impl_findName l n) ?_
 revert l n ho hx
 show ∀ (l : List (Objt)) (n : ByteArray), _
 intro l n ho hx
 dsimp only [C_impl_findName, okPTL, okPT, Ok, Ty.cells, SN.cells, OkL, OkC, okI, ci, cb, cs, cl] at ho
 dsimp only [C_impl_findName, vc, v1, decB, SR.pre] at hx
 (try delta i64 LN); simp only [VBt]; (repeat' first | intro _ | apply And.intro); all_goals (try omega)
 all_goals (try grind [fnd_if])
end Go.Proofs.Ytpgglbnagphgoaa
