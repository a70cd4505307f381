/- Sizes and marks of data: plain Lean. -/
import Derived.Test.YtpgglbnagphgoaaGreatListsS
set_option linter.unusedVariables false
set_option linter.unusedSimpArgs false
namespace Go.Proofs.YtpgglbnagphgoaaGreat
open Go Go.RowKit

theorem drop_get {α : Type} {l : List α} {k : Nat} {x : α} (h : l[k]? = some x) : l.drop k = x :: l.drop (k + 1) := by
 obtain ⟨hk, e⟩ := List.getElem?_eq_some_iff.1 h
 rw [List.drop_eq_getElem_cons hk, e]
theorem drop_get' {α : Type} {l : List α} {k : Int} {x : α} (h : l[k.toNat]? = some x) (hk : 0 ≤ k) : l.drop k.toNat = x :: l.drop (k + 1).toNat := by
 rw [show (k + 1).toNat = k.toNat + 1 by omega]; exact drop_get h
theorem drop_end {α : Type} {l : List α} {k : Int} (h : (l.length : Int) ≤ k) : l.drop k.toNat = [] := List.drop_eq_nil_of_le (by omega)
theorem toNat_succ {k : Int} (h : 0 ≤ k) : (k + 1).toNat = k.toNat + 1 := by omega

def newL (t : Ty) (l : List t.den) : SR := .ret { val := .one (.sl 100 []), ins := [(100, .row none t l true)] }
def newS (s : SN) (x : s.den) : SR := .ret { val := .agg (encO 100 (s.cells x)).1, ins := (encO 100 (s.cells x)).2.1 }
def newSB (s : SN) (x : s.den) (b : Bool) : SR := .ret { val := .tup [(true, (encO 100 (s.cells x)).1), (false, [.c (cb b)])], ins := (encO 100 (s.cells x)).2.1 }
def newLB (t : Ty) (l : List t.den) (b : Bool) : SR := .ret { val := .tup [(false, [.sl 100 []]), (false, [.c (cb b)])], ins := [(100, .row none t l true)] }
/-! sizes -/
def szSy (x : Sym) : Int := x.name.size
def szSe (x : Sect) : Int := x.name.size + x.bytes.length + x.fixups.length
def szOb (o : Objt) : Int := (o.sects.length + sumI szSe o.sects) + (o.syms.length + sumI szSy o.syms)
theorem szSy_nn (x : Sym) : 0 ≤ szSy x := by unfold szSy; omega
theorem szSe_nn (x : Sect) : 0 ≤ szSe x := by unfold szSe; omega
theorem sumI_at {α : Type} {f : α → Int} (hf : ∀ x, 0 ≤ f x) {l : List α} {k : Nat} {x : α} (h : l[k]? = some x) : f x ≤ sumI f l := by
 have h1 := sumI_append f (l.take k) (l.drop k)
 rw [List.take_append_drop, drop_get h] at h1
 have := sumI_nn hf (l.take k)
 have := sumI_nn hf (l.drop (k + 1))
 simp only [sumI] at h1
 omega
/-! marks -/
def c4 {α : Type} (_ : α) : Int := 4
def hI (x k : Int) : Int := if x = k then k + 1 else -1
theorem take_all' {α : Type} {a b : List α} {k : Int} (h : a.take k.toNat = b.take k.toNat) (ha : (a.length : Int) ≤ k) (hl : a.length = b.length) : a = b := take_full h (by omega) (by omega)
theorem take_next {α : Type} {a b : List α} {k : Int} {x : α} (hk : 0 ≤ k) (h : a.take k.toNat = b.take k.toNat) (ha : a[k.toNat]? = some x) (hb : b[k.toNat]? = some x) : a.take (k + 1).toNat = b.take (k + 1).toNat := by
 rw [toNat_succ hk]; exact take_eq_step ha hb h rfl
theorem take_diff {α : Type} {a b : List α} {k : Nat} {x y : α} (ha : a[k]? = some x) (hb : b[k]? = some y) (e : x ≠ y) : a ≠ b := take_ne ha hb e
theorem take_next2 {α : Type} {a b : List α} {k : Int} {x y : α} (hk : 0 ≤ k) (h : a.take k.toNat = b.take k.toNat) (ha : a[k.toNat]? = some x) (hb : b[k.toNat]? = some y) (e : x = y) : a.take (k + 1).toNat = b.take (k + 1).toNat := by
 subst e; exact take_next hk h ha hb
theorem take_diff2 {α : Type} {a b : List α} {k : Nat} {x y : α} (ha : a[k]? = some x) (hb : b[k]? = some y) (e : ¬ x = y) : ¬ a = b := take_ne ha hb e
theorem get_set_iff {α : Type} {l : List α} {k : Nat} {x y : α} : (l.set k x)[k]? = some y ↔ k < l.length ∧ x = y := by
 rw [List.getElem?_set]; simp
theorem ex_img {a : Int} {b : List Int} {P : Img → Prop} : (∃ x : Img, a = x.base ∧ b = x.bytes ∧ P x) ↔ P ⟨a, b⟩ := ⟨fun ⟨x, h1, h2, h3⟩ => by subst h1; subst h2; exact h3, fun h => ⟨_, rfl, rfl, h⟩⟩
theorem ex_mem {a : Int} {b : List Int} {c : List Region} {P : Memo → Prop} : (∃ x : Memo, a = x.what.base ∧ b = x.what.bytes ∧ c = x.regions ∧ P x) ↔ P ⟨⟨a, b⟩, c⟩ := ⟨fun ⟨x, h1, h2, h3, h4⟩ => by subst h1; subst h2; subst h3; exact h4, fun h => ⟨_, rfl, rfl, rfl, h⟩⟩
theorem ex_pat {a : Int} {b : List Int} {P : Patch → Prop} : (∃ x : Patch, a = x.at_ ∧ b = x.bytes ∧ P x) ↔ P ⟨a, b⟩ := ⟨fun ⟨x, h1, h2, h3⟩ => by subst h1; subst h2; exact h3, fun h => ⟨_, rfl, rfl, h⟩⟩
theorem ex_fix {a b c d : Int} {P : Fixup → Prop} : (∃ x : Fixup, a = x.at_ ∧ b = x.kind ∧ c = x.to ∧ d = x.add ∧ P x) ↔ P ⟨a, b, c, d⟩ := ⟨fun ⟨x, h1, h2, h3, h4, h5⟩ => by subst h1; subst h2; subst h3; subst h4; exact h5, fun h => ⟨_, rfl, rfl, rfl, rfl, h⟩⟩
theorem ex_hash {a : List ByteArray} {b c : List Int} {P : HashT → Prop} : (∃ x : HashT, a = x.names ∧ b = x.first ∧ c = x.next ∧ P x) ↔ P ⟨a, b, c⟩ := ⟨fun ⟨x, h1, h2, h3, h4⟩ => by subst h1; subst h2; subst h3; exact h4, fun h => ⟨_, rfl, rfl, rfl, h⟩⟩
theorem ex_obj {a : List Sect} {b : List Sym} {P : Objt → Prop} : (∃ x : Objt, a = x.sects ∧ b = x.syms ∧ P x) ↔ P ⟨a, b⟩ := ⟨fun ⟨x, h1, h2, h3⟩ => by subst h1; subst h2; exact h3, fun h => ⟨_, rfl, rfl, h⟩⟩
theorem ex_sym {a : ByteArray} {b c d : Int} {P : Sym → Prop} : (∃ x : Sym, a = x.name ∧ b = x.bind ∧ c = x.wher ∧ d = x.value ∧ P x) ↔ P ⟨a, b, c, d⟩ := ⟨fun ⟨x, h1, h2, h3, h4, h5⟩ => by subst h1; subst h2; subst h3; subst h4; exact h5, fun h => ⟨_, rfl, rfl, rfl, rfl, h⟩⟩
theorem ex_sect {a : ByteArray} {b c e : Int} {d : List Int} {f : List Fixup} {P : Sect → Prop} : (∃ x : Sect, a = x.name ∧ b = x.kind ∧ c = x.align ∧ d = x.bytes ∧ e = x.size ∧ f = x.fixups ∧ P x) ↔ P ⟨a, b, c, d, e, f⟩ := ⟨fun ⟨x, h1, h2, h3, h4, h5, h6, h7⟩ => by subst h1; subst h2; subst h3; subst h4; subst h5; subst h6; exact h7, fun h => ⟨_, rfl, rfl, rfl, rfl, rfl, rfl, h⟩⟩
theorem ex_member {a : ByteArray} {b : List Sect} {c : List Sym} {P : Member → Prop} : (∃ x : Member, a = x.name ∧ b = x.what.sects ∧ c = x.what.syms ∧ P x) ↔ P ⟨a, ⟨b, c⟩⟩ := ⟨fun ⟨x, h1, h2, h3, h4⟩ => by subst h1; subst h2; subst h3; exact h4, fun h => ⟨_, rfl, rfl, rfl, h⟩⟩
theorem ex_given {a b : Int} {P : Given → Prop} : (∃ x : Given, a = x.in_ ∧ b = x.at_ ∧ P x) ↔ P ⟨a, b⟩ := ⟨fun ⟨x, h1, h2, h3⟩ => by subst h1; subst h2; exact h3, fun h => ⟨_, rfl, rfl, h⟩⟩
theorem eta_hash (x : HashT) : HashT.mk x.names x.first x.next = x := rfl
theorem eta_obj (x : Objt) : Objt.mk x.sects x.syms = x := rfl
theorem eta_sym (x : Sym) : Sym.mk x.name x.bind x.wher x.value = x := rfl
theorem eta_sect (x : Sect) : Sect.mk x.name x.kind x.align x.bytes x.size x.fixups = x := rfl
theorem eta_member (x : Member) : Member.mk x.name ⟨x.what.sects, x.what.syms⟩ = x := rfl
theorem eta_given (x : Given) : Given.mk x.in_ x.at_ = x := rfl
theorem eta_img (x : Img) : Img.mk x.base x.bytes = x := rfl
theorem eta_mem (x : Memo) : Memo.mk ⟨x.what.base, x.what.bytes⟩ x.regions = x := rfl
theorem strOf_len (l : List Int) : (strOf l).size = l.length := by simp [strOf, ByteArray.size]
theorem ba_len (a b : ByteArray) : (a ++ b).size = a.size + b.size := ByteArray.size_append
/-! What is asked, laid out: facts in one. -/
theorem VBt :
  (∀ {p : Prop} [Decidable p], (decide p = true) = p) ∧
  (∀ {p : Prop} [Decidable p], decide p = false ↔ ¬p) ∧
  (∀ (b : Bool), ((!b) = true) = (b = false)) ∧
  (∀ (b : Bool), ((!b) = false) = (b = true)) ∧
  (∀ (p : Prop), (p ∧ True) = p) ∧
  (∀ (p : Prop), (True ∧ p) = p) ∧
  (∀ (n : Nat), (n : Int).toNat = n) ∧
  (∀ {α : Type} {p : α → Prop} {a' : α}, (∃ a, a' = a ∧ p a) ↔ p a') ∧
  (∀ {α : Type} {p : α → Prop} {a' : α}, (∃ a, a = a' ∧ p a) ↔ p a') ∧
  (∀ {α : Type} {p : α → Prop} {b : Prop}, (∃ x, b ∧ p x) ↔ b ∧ ∃ x, p x) ∧
  (∀ {a b : Int}, ¬a < b ↔ b ≤ a) ∧
  (∀ {a b : Int}, ¬a ≤ b ↔ b < a) ∧
  ((false = true) = False) ∧
  (∀ (p : Prop), (False → p) = True) ∧
  (∀ (α : Type), (α → True) = True) ∧
  (∀ (α : Prop), (α → True) = True) ∧
  (∀ {b : Prop} (α : Type) [Nonempty α], (α → b) ↔ b) ∧
  (∀ {b : Prop} (α : Prop) [Nonempty α], (α → b) ↔ b) ∧
  (∀ {α : Type} {l m : List α}, (l ++ m).length = l.length + m.length) ∧
  (∀ {α : Type} {a : α} {l : List α}, (a :: l).length = l.length + 1) ∧
  (∀ {α : Type}, ([] : List α).length = 0) ∧
  (∀ (a b : Int), a - b + b = a) ∧
  (∀ (a b : Int), a + b - b = a) ∧
  (∀ {a b c : Prop}, (a ∧ b → c) ↔ (a → b → c)) ∧
  (∀ {α : Type} {p : α → Prop} {a' : α}, (∀ a, a' = a → p a) ↔ p a') ∧
  (∀ {α : Type} {p : α → Prop} {a' : α}, (∀ a, a = a' → p a) ↔ p a') ∧
  (∀ {α : Type} {l : List α} {k : Nat} {x y : α}, (l.set k x)[k]? = some y ↔ k < l.length ∧ x = y) ∧
  (∀ {a : Int} {b : List Int} {P : Img → Prop}, (∃ x : Img, a = x.base ∧ b = x.bytes ∧ P x) ↔ P ⟨a, b⟩) ∧
  (∀ {a : Int} {b : List Int} {c : List Region} {P : Memo → Prop}, (∃ x : Memo, a = x.what.base ∧ b = x.what.bytes ∧ c = x.regions ∧ P x) ↔ P ⟨⟨a, b⟩, c⟩) ∧
  (∀ {a b c d : Int} {P : Fixup → Prop}, (∃ x : Fixup, a = x.at_ ∧ b = x.kind ∧ c = x.to ∧ d = x.add ∧ P x) ↔ P ⟨a, b, c, d⟩) ∧
  (∀ {a : Int} {b : List Int} {P : Patch → Prop}, (∃ x : Patch, a = x.at_ ∧ b = x.bytes ∧ P x) ↔ P ⟨a, b⟩) ∧
  (∀ {a : List ByteArray} {b c : List Int} {P : HashT → Prop}, (∃ x : HashT, a = x.names ∧ b = x.first ∧ c = x.next ∧ P x) ↔ P ⟨a, b, c⟩) ∧
  (∀ {a : List Sect} {b : List Sym} {P : Objt → Prop}, (∃ x : Objt, a = x.sects ∧ b = x.syms ∧ P x) ↔ P ⟨a, b⟩) ∧
  (∀ {a : ByteArray} {b c d : Int} {P : Sym → Prop}, (∃ x : Sym, a = x.name ∧ b = x.bind ∧ c = x.wher ∧ d = x.value ∧ P x) ↔ P ⟨a, b, c, d⟩) ∧
  (∀ {a : ByteArray} {b c e : Int} {d : List Int} {f : List Fixup} {P : Sect → Prop}, (∃ x : Sect, a = x.name ∧ b = x.kind ∧ c = x.align ∧ d = x.bytes ∧ e = x.size ∧ f = x.fixups ∧ P x) ↔ P ⟨a, b, c, d, e, f⟩) ∧
  (∀ {a : ByteArray} {b : List Sect} {c : List Sym} {P : Member → Prop}, (∃ x : Member, a = x.name ∧ b = x.what.sects ∧ c = x.what.syms ∧ P x) ↔ P ⟨a, ⟨b, c⟩⟩) ∧
  (∀ {a b : Int} {P : Given → Prop}, (∃ x : Given, a = x.in_ ∧ b = x.at_ ∧ P x) ↔ P ⟨a, b⟩) ∧
  (∀ (x : HashT), HashT.mk x.names x.first x.next = x) ∧
  (∀ (x : Objt), Objt.mk x.sects x.syms = x) ∧
  (∀ (x : Sym), Sym.mk x.name x.bind x.wher x.value = x) ∧
  (∀ (x : Sect), Sect.mk x.name x.kind x.align x.bytes x.size x.fixups = x) ∧
  (∀ (x : Member), Member.mk x.name ⟨x.what.sects, x.what.syms⟩ = x) ∧
  (∀ (x : Given), Given.mk x.in_ x.at_ = x) ∧
  (∀ (x : Img), Img.mk x.base x.bytes = x) ∧
  (∀ (x : Memo), Memo.mk ⟨x.what.base, x.what.bytes⟩ x.regions = x) ∧
  (∀ {α : Type} {l : List α} {n : Nat} {a b : α}, (l.set n a).set n b = l.set n b) ∧
  (∀ {α : Type} {mk : α → Int → α} {c : α → Int} {l : List α} {k : Int} {i : Nat}, (mkd mk c l k i)[i]? = l[i]?) ∧
  (∀ {α : Type} {mk : α → Int → α} {c : α → Int} {l : List α} {k : Int} {i : Nat}, (mkd mk c l k i).length = l.length) ∧
  (∀ {α : Type} {l : List α} {i : Nat} {a : α}, (l.set i a).length = l.length) ∧
  (∀ {α : Type} {x y : α}, (some x = some y) = (x = y)) :=
 ⟨@decide_eq_true_eq, fun {_} [_] => decide_eq_false_iff_not, @Bool.not_eq_true', @Bool.not_eq_false', @and_true, @true_and, @Int.toNat_natCast, fun {_ _ _} => exists_eq_left', fun {_ _ _} => exists_eq_left, fun {_ _ _} => exists_and_left, @Int.not_lt, @Int.not_le, Bool.false_eq_true, @false_implies, fun _ => implies_true _, fun _ => implies_true _, fun {_} _ [_] => forall_const _, fun {_} _ [_] => forall_const _, fun {_ _ _} => List.length_append, fun {_ _ _} => List.length_cons, fun {_} => List.length_nil, @Int.sub_add_cancel, @Int.add_sub_cancel, @and_imp, fun {_ _ _} => forall_eq', fun {_ _ _} => forall_eq, @get_set_iff, @ex_img, @ex_mem, @ex_fix, @ex_pat, @ex_hash, @ex_obj, @ex_sym, @ex_sect, @ex_member, @ex_given, @eta_hash, @eta_obj, @eta_sym, @eta_sect, @eta_member, @eta_given, @eta_img, @eta_mem, fun {_ _ _ _ _} => List.set_set .., @mkd_get, @mkd_len, fun {_ _ _ _} => List.length_set, fun {_ _ _} => Option.some.injEq ..⟩
theorem DRt :
  (∀ {p : Prop} [Decidable p], (decide p = true) = p) ∧
  (∀ {p : Prop} [Decidable p], decide p = false ↔ ¬p) ∧
  (∀ (b : Bool), ((!b) = true) = (b = false)) ∧
  (∀ (b : Bool), ((!b) = false) = (b = true)) ∧
  (∀ (p : Prop), (p ∧ True) = p) ∧
  (∀ (p : Prop), (True ∧ p) = p) ∧
  (∀ (n : Nat), (n : Int).toNat = n) ∧
  (∀ {α : Type} {p : α → Prop} {a' : α}, (∃ a, a' = a ∧ p a) ↔ p a') ∧
  (∀ {α : Type} {p : α → Prop} {a' : α}, (∃ a, a = a' ∧ p a) ↔ p a') ∧
  (∀ {α : Type} {p : α → Prop} {b : Prop}, (∃ x, b ∧ p x) ↔ b ∧ ∃ x, p x) ∧
  (∀ {a b : Int}, ¬a < b ↔ b ≤ a) ∧
  (∀ {a b : Int}, ¬a ≤ b ↔ b < a) ∧
  ((false = true) = False) ∧
  (∀ (p : Prop), (False → p) = True) ∧
  (∀ (α : Type), (α → True) = True) ∧
  (∀ (α : Prop), (α → True) = True) ∧
  (∀ {b : Prop} (α : Type) [Nonempty α], (α → b) ↔ b) ∧
  (∀ {b : Prop} (α : Prop) [Nonempty α], (α → b) ↔ b) ∧
  (∀ {α : Type} {l m : List α}, (l ++ m).length = l.length + m.length) ∧
  (∀ {α : Type} {a : α} {l : List α}, (a :: l).length = l.length + 1) ∧
  (∀ {α : Type}, ([] : List α).length = 0) ∧
  (∀ (a b : Int), a - b + b = a) ∧
  (∀ (a b : Int), a + b - b = a) ∧
  (∀ {a b c : Prop}, (a ∧ b → c) ↔ (a → b → c)) ∧
  (∀ {α : Type} {p : α → Prop} {a' : α}, (∀ a, a' = a → p a) ↔ p a') ∧
  (∀ {α : Type} {p : α → Prop} {a' : α}, (∀ a, a = a' → p a) ↔ p a') ∧
  (∀ {a b c : Prop}, (a ∧ b) ∧ c ↔ a ∧ b ∧ c) ∧
  (∀ {a : Int} {b : List Int} {P : Img → Prop}, (∃ x : Img, a = x.base ∧ b = x.bytes ∧ P x) ↔ P ⟨a, b⟩) ∧
  (∀ {a : Int} {b : List Int} {c : List Region} {P : Memo → Prop}, (∃ x : Memo, a = x.what.base ∧ b = x.what.bytes ∧ c = x.regions ∧ P x) ↔ P ⟨⟨a, b⟩, c⟩) ∧
  (∀ {a b c d : Int} {P : Fixup → Prop}, (∃ x : Fixup, a = x.at_ ∧ b = x.kind ∧ c = x.to ∧ d = x.add ∧ P x) ↔ P ⟨a, b, c, d⟩) ∧
  (∀ {a : Int} {b : List Int} {P : Patch → Prop}, (∃ x : Patch, a = x.at_ ∧ b = x.bytes ∧ P x) ↔ P ⟨a, b⟩) ∧
  (∀ {a : List ByteArray} {b c : List Int} {P : HashT → Prop}, (∃ x : HashT, a = x.names ∧ b = x.first ∧ c = x.next ∧ P x) ↔ P ⟨a, b, c⟩) ∧
  (∀ {a : List Sect} {b : List Sym} {P : Objt → Prop}, (∃ x : Objt, a = x.sects ∧ b = x.syms ∧ P x) ↔ P ⟨a, b⟩) ∧
  (∀ {a : ByteArray} {b c d : Int} {P : Sym → Prop}, (∃ x : Sym, a = x.name ∧ b = x.bind ∧ c = x.wher ∧ d = x.value ∧ P x) ↔ P ⟨a, b, c, d⟩) ∧
  (∀ {a : ByteArray} {b c e : Int} {d : List Int} {f : List Fixup} {P : Sect → Prop}, (∃ x : Sect, a = x.name ∧ b = x.kind ∧ c = x.align ∧ d = x.bytes ∧ e = x.size ∧ f = x.fixups ∧ P x) ↔ P ⟨a, b, c, d, e, f⟩) ∧
  (∀ {a : ByteArray} {b : List Sect} {c : List Sym} {P : Member → Prop}, (∃ x : Member, a = x.name ∧ b = x.what.sects ∧ c = x.what.syms ∧ P x) ↔ P ⟨a, ⟨b, c⟩⟩) ∧
  (∀ {a b : Int} {P : Given → Prop}, (∃ x : Given, a = x.in_ ∧ b = x.at_ ∧ P x) ↔ P ⟨a, b⟩) ∧
  (∀ (x : HashT), HashT.mk x.names x.first x.next = x) ∧
  (∀ (x : Objt), Objt.mk x.sects x.syms = x) ∧
  (∀ (x : Sym), Sym.mk x.name x.bind x.wher x.value = x) ∧
  (∀ (x : Sect), Sect.mk x.name x.kind x.align x.bytes x.size x.fixups = x) ∧
  (∀ (x : Member), Member.mk x.name ⟨x.what.sects, x.what.syms⟩ = x) ∧
  (∀ (x : Given), Given.mk x.in_ x.at_ = x) ∧
  (∀ (x : Img), Img.mk x.base x.bytes = x) ∧
  (∀ (x : Memo), Memo.mk ⟨x.what.base, x.what.bytes⟩ x.regions = x) :=
 ⟨@decide_eq_true_eq, fun {_} [_] => decide_eq_false_iff_not, @Bool.not_eq_true', @Bool.not_eq_false', @and_true, @true_and, @Int.toNat_natCast, fun {_ _ _} => exists_eq_left', fun {_ _ _} => exists_eq_left, fun {_ _ _} => exists_and_left, @Int.not_lt, @Int.not_le, Bool.false_eq_true, @false_implies, fun _ => implies_true _, fun _ => implies_true _, fun {_} _ [_] => forall_const _, fun {_} _ [_] => forall_const _, fun {_ _ _} => List.length_append, fun {_ _ _} => List.length_cons, fun {_} => List.length_nil, @Int.sub_add_cancel, @Int.add_sub_cancel, @and_imp, fun {_ _ _} => forall_eq', fun {_ _ _} => forall_eq, @and_assoc, @ex_img, @ex_mem, @ex_fix, @ex_pat, @ex_hash, @ex_obj, @ex_sym, @ex_sect, @ex_member, @ex_given, @eta_hash, @eta_obj, @eta_sym, @eta_sect, @eta_member, @eta_given, @eta_img, @eta_mem⟩
end Go.Proofs.YtpgglbnagphgoaaGreat
