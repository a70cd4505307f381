/- Sizes and marks of data: plain Lean. -/
import Derived.Test.YtpgglbnagphgoaaGreatListsQ
set_option linter.unusedVariables false
set_option linter.unusedSimpArgs false
namespace Go.Proofs.YtpgglbnagphgoaaGreat
open Go Go.RowKit

theorem drop_get {α : Type} {l : List α} {k : Nat} {x : α} (h : l[k]? = some x) : l.drop k = x :: l.drop (k + 1) := by
 obtain ⟨hk, e⟩ := List.getElem?_eq_some_iff.1 h
 rw [List.drop_eq_getElem_cons hk, e]
theorem drop_get' {α : Type} {l : List α} {k : Int} {x : α} (h : l[k.toNat]? = some x) (hk : 0 ≤ k) : l.drop k.toNat = x :: l.drop (k + 1).toNat := by
 rw [show (k + 1).toNat = k.toNat + 1 by omega]; exact drop_get h
theorem drop_end {α : Type} {l : List α} {k : Int} (h : (l.length : Int) ≤ k) : l.drop k.toNat = [] := List.drop_eq_nil_of_le (by omega)
theorem toNat_succ {k : Int} (h : 0 ≤ k) : (k + 1).toNat = k.toNat + 1 := by omega

def newL (t : Ty) (l : List t.den) : SR := .ret { val := .one (.sl 100 []), ins := [(100, .row none t l true)] }
def newS (s : SN) (x : s.den) : SR := .ret { val := .agg (encO 100 (s.cells x)).1, ins := (encO 100 (s.cells x)).2.1 }
def newSB (s : SN) (x : s.den) (b : Bool) : SR := .ret { val := .tup [(true, (encO 100 (s.cells x)).1), (false, [.c (cb b)])], ins := (encO 100 (s.cells x)).2.1 }
def turnL (t : Ty) (l : List t.den) (k : Int) : SR := .ret { val := ai k, ins := [(0, .row none t l true)] }
def turnS (s : SN) (x : s.den) (k : Int) : SR := .ret { val := ai k, ins := (encO 0 (s.cells x)).2.1 }
/-! sizes -/
def szSy (x : Sym) : Int := x.name.size
def szPa (x : Patch) : Int := x.bytes.length
def szSe (x : Sect) : Int := x.name.size + x.bytes.length + x.fixups.length
def szOb (o : Objt) : Int := (o.sects.length + sumI szSe o.sects) + (o.syms.length + sumI szSy o.syms)
def szMb (m : Member) : Int := m.name.size + szOb m.what
def szIm (m : Img) : Int := m.bytes.length
def szMe (m : Memo) : Int := m.what.bytes.length + m.regions.length
def szHa (t : HashT) : Int := (t.names.length + sumI (fun s : ByteArray => (s.size : Int)) t.names) + t.first.length + t.next.length
theorem szSy_nn (x : Sym) : 0 ≤ szSy x := by unfold szSy; omega
theorem szSe_nn (x : Sect) : 0 ≤ szSe x := by unfold szSe; omega
theorem szOb_nn (o : Objt) : 0 ≤ szOb o := by unfold szOb; have := sumI_nn szSe_nn o.sects; have := sumI_nn szSy_nn o.syms; omega
theorem szMb_nn (m : Member) : 0 ≤ szMb m := by unfold szMb; have := szOb_nn m.what; omega
theorem sumI_at {α : Type} {f : α → Int} (hf : ∀ x, 0 ≤ f x) {l : List α} {k : Nat} {x : α} (h : l[k]? = some x) : f x ≤ sumI f l := by
 have h1 := sumI_append f (l.take k) (l.drop k)
 rw [List.take_append_drop, drop_get h] at h1
 have := sumI_nn hf (l.take k)
 have := sumI_nn hf (l.drop (k + 1))
 simp only [sumI] at h1
 omega
/-! marks -/
def cOne {α : Type} (_ : α) : Int := 1
def c4 {α : Type} (_ : α) : Int := 4
def mkI (_ : Int) (k : Int) : Int := k
def mkU (_ : Int) (k : Int) : Int := k % 256
def hI (x k : Int) : Int := if x = k then k + 1 else -1
def hU (x k : Int) : Int := if x = k % 256 then k + 1 else -1
def digA : Nat → Int → ByteArray → ByteArray
 | 0, _, o => o
 | n + 1, k, o => if 0 < k then digA n (k / 10) (strOf [(48 + k % 10) % 256] ++ o) else o
def markT (k : Int) : ByteArray := if k ≤ 0 then strOf [109, 48] else strOf [109] ++ digA 20 k (strOf [])
def mkSt (_ : ByteArray) (k : Int) : ByteArray := markT k
def hSt (x : ByteArray) (k : Int) : Int := if x = markT k then k + 1 else -1
def mkFx (_ : Fixup) (k : Int) : Fixup := ⟨k, k + 1, k + 2, k + 3⟩
def hFx (x : Fixup) (k : Int) : Int := if x.at_ = k ∧ x.kind = k + 1 ∧ x.to = k + 2 ∧ x.add = k + 3 then k + 4 else -1
def mkSy (_ : Sym) (k : Int) : Sym := ⟨markT k, k + 1, k + 2, k + 3⟩
def hSy (x : Sym) (k : Int) : Int := if x.name = markT k ∧ x.bind = k + 1 ∧ x.wher = k + 2 ∧ x.value = k + 3 then k + 4 else -1
def mkRg (_ : Region) (k : Int) : Region := ⟨k, k + 1, decide ((k + 2) % 3 = 0), decide ((k + 3) % 3 = 0)⟩
def hRg (x : Region) (k : Int) : Int := if x.from_ = k ∧ x.to = k + 1 ∧ x.write = decide ((k + 2) % 3 = 0) ∧ x.run = decide ((k + 3) % 3 = 0) then k + 4 else -1
def mkPa (x : Patch) (k : Int) : Patch := ⟨k, mkL mkU cOne x.bytes (k + 1)⟩
def cPa (x : Patch) : Int := 1 + sumI cOne x.bytes
def hPa (x : Patch) (k : Int) : Int := if x.at_ = k then hdL hU x.bytes (k + 1) else -1
def mkSe (x : Sect) (k : Int) : Sect := ⟨markT k, k + 1, k + 2, mkL mkU cOne x.bytes (k + 3), k + 3 + sumI cOne x.bytes, mkL mkFx c4 x.fixups (k + 3 + sumI cOne x.bytes + 1)⟩
def cSe (x : Sect) : Int := 4 + sumI cOne x.bytes + sumI c4 x.fixups
def hSe (x : Sect) (k : Int) : Int :=
 if x.name = markT k ∧ x.kind = k + 1 ∧ x.align = k + 2 then
  (if hdL hU x.bytes (k + 3) < 0 then -1 else if x.size = hdL hU x.bytes (k + 3) then hdL hFx x.fixups (hdL hU x.bytes (k + 3) + 1) else -1) else -1
def mkOb (o : Objt) (k : Int) : Objt := ⟨mkL mkSe cSe o.sects k, mkL mkSy c4 o.syms (k + sumI cSe o.sects)⟩
def cOb (o : Objt) : Int := sumI cSe o.sects + sumI c4 o.syms
def hOb (o : Objt) (k : Int) : Int := if hdL hSe o.sects k < 0 then -1 else hdL hSy o.syms (hdL hSe o.sects k)
def mkMb (m : Member) (k : Int) : Member := ⟨markT k, mkOb m.what (k + 1)⟩
def cMb (m : Member) : Int := 1 + cOb m.what
def hMb (m : Member) (k : Int) : Int := if m.name = markT k then hOb m.what (k + 1) else -1
def mkIm (m : Img) (k : Int) : Img := ⟨m.base, mkL mkU cOne m.bytes k⟩
def cIm (m : Img) : Int := sumI cOne m.bytes
def hIm (m : Img) (k : Int) : Int := hdL hU m.bytes k
def mkMe (m : Memo) (k : Int) : Memo := ⟨⟨m.what.base, mkL mkU cOne m.what.bytes k⟩, mkL mkRg c4 m.regions (k + sumI cOne m.what.bytes)⟩
def cMe (m : Memo) : Int := sumI cOne m.what.bytes + sumI c4 m.regions
def hMe (m : Memo) (k : Int) : Int := if hdL hU m.what.bytes k < 0 then -1 else hdL hRg m.regions (hdL hU m.what.bytes k)
def mkHa (t : HashT) (k : Int) : HashT := ⟨mkL mkSt cOne t.names k, mkL mkI cOne t.first (k + sumI cOne t.names), mkL mkI cOne t.next (k + sumI cOne t.names + sumI cOne t.first)⟩
def cHa (t : HashT) : Int := sumI cOne t.names + sumI cOne t.first + sumI cOne t.next
def hHa (t : HashT) (k : Int) : Int :=
 if hdL hSt t.names k < 0 then -1 else if hdL hI t.first (hdL hSt t.names k) < 0 then -1 else hdL hI t.next (hdL hI t.first (hdL hSt t.names k))
def mkIL (l : List Int) (k : Int) : List Int := mkL mkI cOne l k
def cIL (l : List Int) : Int := sumI cOne l
def hIL (l : List Int) (k : Int) : Int := hdL hI l k
theorem cOne_nn {α : Type} (x : α) : 0 ≤ cOne x := by unfold cOne; omega
theorem c4_nn {α : Type} (x : α) : 0 ≤ c4 x := by unfold c4; omega
theorem cSe_nn (x : Sect) : 0 ≤ cSe x := by unfold cSe; have := sumI_nn cOne_nn x.bytes; have := sumI_nn c4_nn x.fixups; omega
theorem cOb_nn (x : Objt) : 0 ≤ cOb x := by unfold cOb; have := sumI_nn cSe_nn x.sects; have := sumI_nn c4_nn x.syms; omega
theorem cOne_len {α : Type} (l : List α) : sumI cOne l = l.length := sumI_one l
theorem c4_len {α : Type} (l : List α) : sumI c4 l = 4 * l.length := sumI_const 4 l
def Steps {α : Type} (h : α → Int → Int) (c : α → Int) : Prop := ∀ x k, h x k = -1 ∨ h x k = k + c x
theorem hdL_steps {α : Type} {h : α → Int → Int} {c : α → Int} (hs : Steps h c) : ∀ (l : List α) (k : Int), hdL h l k = -1 ∨ hdL h l k = k + sumI c l := by
 intro l
 induction l with
 | nil => intro k; right; simp [hdL, sumI]
 | cons x l ih =>
  intro k
  simp only [hdL, sumI]
  split
  ·exact .inl rfl
  ·rcases hs x k with h1 | h1
   ·omega
   ·rcases ih (h x k) with h2 | h2
    ·exact .inl h2
    ·right; omega
theorem hU_st : Steps hU cOne := fun x k => by unfold hU cOne; split <;> simp
theorem hFx_st : Steps hFx c4 := fun x k => by unfold hFx c4; split <;> simp
theorem hSy_st : Steps hSy c4 := fun x k => by unfold hSy c4; split <;> simp
theorem hSe_st : Steps hSe cSe := fun x k => by
 unfold hSe cSe
 have h1 := hdL_steps hU_st x.bytes (k + 3)
 have h2 := hdL_steps hFx_st x.fixups (hdL hU x.bytes (k + 3) + 1)
 split
 ·split
  ·exact .inl rfl
  ·split <;> omega
 ·exact .inl rfl
theorem hdU_or (l : List (Int)) (k : Int) : hdL hU l k = -1 ∨ hdL hU l k = k + sumI cOne l := hdL_steps hU_st l k
theorem hdFx_or (l : List (Fixup)) (k : Int) : hdL hFx l k = -1 ∨ hdL hFx l k = k + sumI c4 l := hdL_steps hFx_st l k
theorem hdSy_or (l : List (Sym)) (k : Int) : hdL hSy l k = -1 ∨ hdL hSy l k = k + sumI c4 l := hdL_steps hSy_st l k
theorem hdSe_or (l : List (Sect)) (k : Int) : hdL hSe l k = -1 ∨ hdL hSe l k = k + sumI cSe l := hdL_steps hSe_st l k
theorem cOne_ge {α : Type} (l : List α) : 0 ≤ sumI cOne l := sumI_nn cOne_nn l
theorem c4_ge {α : Type} (l : List α) : 0 ≤ sumI c4 l := sumI_nn c4_nn l
theorem cSe_ge (l : List Sect) : 0 ≤ sumI cSe l := sumI_nn cSe_nn l
def Held {α : Type} (mk : α → Int → α) (c : α → Int) (h : α → Int → Int) : Prop := ∀ x k, 0 ≤ k → h (mk x k) k = k + c x
theorem hU_mk : Held mkU cOne hU := fun x k _ => by unfold hU mkU cOne; simp
theorem hFx_mk : Held mkFx c4 hFx := fun x k _ => by unfold hFx mkFx c4; simp
theorem hSy_mk : Held mkSy c4 hSy := fun x k _ => by unfold hSy mkSy c4; simp
theorem hdL_mk {α : Type} {mk : α → Int → α} {c : α → Int} {h : α → Int → Int} (hc : ∀ x, 0 ≤ c x) (hh : Held mk c h) (l : List α) (k : Int) (hk : 0 ≤ k) : hdL h (mkL mk c l k) k = k + sumI c l := hdL_mkL hc hh l k hk
theorem hSe_mk : Held mkSe cSe hSe := fun x k hk => by
 have n1 := sumI_nn cOne_nn x.bytes
 have n2 := sumI_nn c4_nn x.fixups
 unfold hSe mkSe cSe
 simp only [and_self, if_true]
 rw [hdL_mk cOne_nn hU_mk _ _ (by omega)]
 rw [if_neg (by omega), if_pos rfl, hdL_mk c4_nn hFx_mk _ _ (by omega)]
 omega
theorem hOb_mk : Held mkOb cOb hOb := fun x k hk => by
 have n1 := sumI_nn cSe_nn x.sects
 unfold hOb mkOb cOb
 simp only
 rw [hdL_mk cSe_nn hSe_mk _ _ hk, if_neg (by omega), hdL_mk c4_nn hSy_mk _ _ (by omega)]
 omega
theorem set_fill' {α : Type} {a : List α} {k : Int} {x z : α} (h : a[k.toNat]? = some x) (hk : 0 ≤ k) : (a.take k.toNat ++ List.replicate (a.length - k.toNat) z).set k.toNat x = a.take (k + 1).toNat ++ List.replicate (a.length - (k + 1).toNat) z := by
 rw [toNat_succ hk]; exact set_fill h rfl
theorem fill_full' {α : Type} {a : List α} {k : Int} {z : α} (hk : (a.length : Int) ≤ k) : a.take k.toNat ++ List.replicate (a.length - k.toNat) z = a := fill_full rfl (by omega)
theorem repl_fill {α : Type} {a : List α} {z : α} : repl (a.length : Int) z = a.take (0 : Int).toNat ++ List.replicate (a.length - (0 : Int).toNat) z := by simp [repl]
theorem take_all' {α : Type} {a b : List α} {k : Int} (h : a.take k.toNat = b.take k.toNat) (ha : (a.length : Int) ≤ k) (hl : a.length = b.length) : a = b := take_full h (by omega) (by omega)
theorem take_next {α : Type} {a b : List α} {k : Int} {x : α} (hk : 0 ≤ k) (h : a.take k.toNat = b.take k.toNat) (ha : a[k.toNat]? = some x) (hb : b[k.toNat]? = some x) : a.take (k + 1).toNat = b.take (k + 1).toNat := by
 rw [toNat_succ hk]; exact take_eq_step ha hb h rfl
theorem take_diff {α : Type} {a b : List α} {k : Nat} {x y : α} (ha : a[k]? = some x) (hb : b[k]? = some y) (e : x ≠ y) : a ≠ b := take_ne ha hb e
theorem mkd_set' {α : Type} {mk : α → Int → α} {c : α → Int} {l : List α} {k : Int} {i : Int} {x y : α} (h : l[i.toNat]? = some x) (hi : 0 ≤ i) (hy : y = mk x (k + sumI c (l.take i.toNat))) : (mkd mk c l k i.toNat).set i.toNat y = mkd mk c l k (i + 1).toNat := by
 rw [toNat_succ hi, hy]; exact mkd_set h
theorem mkd_full' {α : Type} {mk : α → Int → α} {c : α → Int} {l : List α} {k : Int} {i : Int} (h : (l.length : Int) ≤ i) : mkd mk c l k i.toNat = mkL mk c l k := mkd_full (by omega)
theorem sumI_next {α : Type} {f : α → Int} {l : List α} {i : Int} {x : α} (hi : 0 ≤ i) (h : l[i.toNat]? = some x) : sumI f (l.take (i + 1).toNat) = sumI f (l.take i.toNat) + f x := by
 rw [toNat_succ hi]; exact sumI_take h
theorem sumI_all {α : Type} {f : α → Int} {l : List α} {i : Int} (h : (l.length : Int) ≤ i) : sumI f (l.take i.toNat) = sumI f l := sumI_full (by omega)
theorem sumI_drop {α : Type} {f : α → Int} {l : List α} {i : Int} {x : α} (hi : 0 ≤ i) (h : l[i.toNat]? = some x) : sumI f (l.drop i.toNat) = f x + sumI f (l.drop (i + 1).toNat) := by
 rw [drop_get' h hi]; rfl
theorem hdL_drop {α : Type} {f : α → Int → Int} {l : List α} {i m : Int} {x : α} (hi : 0 ≤ i) (h : l[i.toNat]? = some x) : hdL f (l.drop i.toNat) m = if f x m < 0 then -1 else hdL f (l.drop (i + 1).toNat) (f x m) := by
 rw [drop_get' h hi]; rfl
theorem take_next2 {α : Type} {a b : List α} {k : Int} {x y : α} (hk : 0 ≤ k) (h : a.take k.toNat = b.take k.toNat) (ha : a[k.toNat]? = some x) (hb : b[k.toNat]? = some y) (e : x = y) : a.take (k + 1).toNat = b.take (k + 1).toNat := by
 subst e; exact take_next hk h ha hb
theorem take_diff2 {α : Type} {a b : List α} {k : Nat} {x y : α} (ha : a[k]? = some x) (hb : b[k]? = some y) (e : ¬ x = y) : ¬ a = b := take_ne ha hb e
theorem get_set_iff {α : Type} {l : List α} {k : Nat} {x y : α} : (l.set k x)[k]? = some y ↔ k < l.length ∧ x = y := by
 rw [List.getElem?_set]; simp
theorem ex_img {a : Int} {b : List Int} {P : Img → Prop} : (∃ x : Img, a = x.base ∧ b = x.bytes ∧ P x) ↔ P ⟨a, b⟩ := ⟨fun ⟨x, h1, h2, h3⟩ => by subst h1; subst h2; exact h3, fun h => ⟨_, rfl, rfl, h⟩⟩
theorem ex_mem {a : Int} {b : List Int} {c : List Region} {P : Memo → Prop} : (∃ x : Memo, a = x.what.base ∧ b = x.what.bytes ∧ c = x.regions ∧ P x) ↔ P ⟨⟨a, b⟩, c⟩ := ⟨fun ⟨x, h1, h2, h3, h4⟩ => by subst h1; subst h2; subst h3; exact h4, fun h => ⟨_, rfl, rfl, rfl, h⟩⟩
theorem ex_pat {a : Int} {b : List Int} {P : Patch → Prop} : (∃ x : Patch, a = x.at_ ∧ b = x.bytes ∧ P x) ↔ P ⟨a, b⟩ := ⟨fun ⟨x, h1, h2, h3⟩ => by subst h1; subst h2; exact h3, fun h => ⟨_, rfl, rfl, h⟩⟩
theorem ex_fix {a b c d : Int} {P : Fixup → Prop} : (∃ x : Fixup, a = x.at_ ∧ b = x.kind ∧ c = x.to ∧ d = x.add ∧ P x) ↔ P ⟨a, b, c, d⟩ := ⟨fun ⟨x, h1, h2, h3, h4, h5⟩ => by subst h1; subst h2; subst h3; subst h4; exact h5, fun h => ⟨_, rfl, rfl, rfl, rfl, h⟩⟩
theorem ex_hash {a : List ByteArray} {b c : List Int} {P : HashT → Prop} : (∃ x : HashT, a = x.names ∧ b = x.first ∧ c = x.next ∧ P x) ↔ P ⟨a, b, c⟩ := ⟨fun ⟨x, h1, h2, h3, h4⟩ => by subst h1; subst h2; subst h3; exact h4, fun h => ⟨_, rfl, rfl, rfl, h⟩⟩
theorem ex_obj {a : List Sect} {b : List Sym} {P : Objt → Prop} : (∃ x : Objt, a = x.sects ∧ b = x.syms ∧ P x) ↔ P ⟨a, b⟩ := ⟨fun ⟨x, h1, h2, h3⟩ => by subst h1; subst h2; exact h3, fun h => ⟨_, rfl, rfl, h⟩⟩
theorem ex_sym {a : ByteArray} {b c d : Int} {P : Sym → Prop} : (∃ x : Sym, a = x.name ∧ b = x.bind ∧ c = x.wher ∧ d = x.value ∧ P x) ↔ P ⟨a, b, c, d⟩ := ⟨fun ⟨x, h1, h2, h3, h4, h5⟩ => by subst h1; subst h2; subst h3; subst h4; exact h5, fun h => ⟨_, rfl, rfl, rfl, rfl, h⟩⟩
theorem ex_sect {a : ByteArray} {b c e : Int} {d : List Int} {f : List Fixup} {P : Sect → Prop} : (∃ x : Sect, a = x.name ∧ b = x.kind ∧ c = x.align ∧ d = x.bytes ∧ e = x.size ∧ f = x.fixups ∧ P x) ↔ P ⟨a, b, c, d, e, f⟩ := ⟨fun ⟨x, h1, h2, h3, h4, h5, h6, h7⟩ => by subst h1; subst h2; subst h3; subst h4; subst h5; subst h6; exact h7, fun h => ⟨_, rfl, rfl, rfl, rfl, rfl, rfl, h⟩⟩
theorem ex_member {a : ByteArray} {b : List Sect} {c : List Sym} {P : Member → Prop} : (∃ x : Member, a = x.name ∧ b = x.what.sects ∧ c = x.what.syms ∧ P x) ↔ P ⟨a, ⟨b, c⟩⟩ := ⟨fun ⟨x, h1, h2, h3, h4⟩ => by subst h1; subst h2; subst h3; exact h4, fun h => ⟨_, rfl, rfl, rfl, h⟩⟩
theorem ex_given {a b : Int} {P : Given → Prop} : (∃ x : Given, a = x.in_ ∧ b = x.at_ ∧ P x) ↔ P ⟨a, b⟩ := ⟨fun ⟨x, h1, h2, h3⟩ => by subst h1; subst h2; exact h3, fun h => ⟨_, rfl, rfl, h⟩⟩
theorem eta_hash (x : HashT) : HashT.mk x.names x.first x.next = x := rfl
theorem eta_obj (x : Objt) : Objt.mk x.sects x.syms = x := rfl
theorem eta_sym (x : Sym) : Sym.mk x.name x.bind x.wher x.value = x := rfl
theorem eta_sect (x : Sect) : Sect.mk x.name x.kind x.align x.bytes x.size x.fixups = x := rfl
theorem eta_member (x : Member) : Member.mk x.name ⟨x.what.sects, x.what.syms⟩ = x := rfl
theorem eta_given (x : Given) : Given.mk x.in_ x.at_ = x := rfl
theorem eta_img (x : Img) : Img.mk x.base x.bytes = x := rfl
theorem eta_mem (x : Memo) : Memo.mk ⟨x.what.base, x.what.bytes⟩ x.regions = x := rfl
theorem szR_le2 {s m n : Int} (hs : 0 ≤ s) (h : 0 ≤ szR s m) (hm : m ≤ n) : szR s m ≤ n := by
 unfold szR at *; split at h <;> split <;> omega
theorem sumI_tk {α : Type} {f : α → Int} (hf : ∀ x, 0 ≤ f x) {l : List α} {i : Int} {x : α} (hi : 0 ≤ i) (h : l[i.toNat]? = some x) : sumI f (l.take i.toNat) + f x ≤ sumI f l := by
 rw [← sumI_next hi h]; exact sumI_le hf l _
theorem strOf_len (l : List Int) : (strOf l).size = l.length := by simp [strOf, ByteArray.size]
theorem ba_len (a b : ByteArray) : (a ++ b).size = a.size + b.size := ByteArray.size_append
/-! What is asked, laid out: facts in one. -/
theorem VBt :
  (∀ {p : Prop} [Decidable p], (decide p = true) = p) ∧
  (∀ {p : Prop} [Decidable p], decide p = false ↔ ¬p) ∧
  (∀ (b : Bool), ((!b) = true) = (b = false)) ∧
  (∀ (b : Bool), ((!b) = false) = (b = true)) ∧
  (∀ (p : Prop), (p ∧ True) = p) ∧
  (∀ (p : Prop), (True ∧ p) = p) ∧
  (∀ (n : Nat), (n : Int).toNat = n) ∧
  (∀ {α : Type} {p : α → Prop} {a' : α}, (∃ a, a' = a ∧ p a) ↔ p a') ∧
  (∀ {α : Type} {p : α → Prop} {a' : α}, (∃ a, a = a' ∧ p a) ↔ p a') ∧
  (∀ {α : Type} {p : α → Prop} {b : Prop}, (∃ x, b ∧ p x) ↔ b ∧ ∃ x, p x) ∧
  (∀ {a b : Int}, ¬a < b ↔ b ≤ a) ∧
  (∀ {a b : Int}, ¬a ≤ b ↔ b < a) ∧
  ((false = true) = False) ∧
  (∀ (p : Prop), (False → p) = True) ∧
  (∀ (α : Type), (α → True) = True) ∧
  (∀ (α : Prop), (α → True) = True) ∧
  (∀ {b : Prop} (α : Type) [Nonempty α], (α → b) ↔ b) ∧
  (∀ {b : Prop} (α : Prop) [Nonempty α], (α → b) ↔ b) ∧
  (∀ {α : Type} {l m : List α}, (l ++ m).length = l.length + m.length) ∧
  (∀ {α : Type} {a : α} {l : List α}, (a :: l).length = l.length + 1) ∧
  (∀ {α : Type}, ([] : List α).length = 0) ∧
  (∀ (a b : Int), a - b + b = a) ∧
  (∀ (a b : Int), a + b - b = a) ∧
  (∀ {a b c : Prop}, (a ∧ b → c) ↔ (a → b → c)) ∧
  (∀ {α : Type} {p : α → Prop} {a' : α}, (∀ a, a' = a → p a) ↔ p a') ∧
  (∀ {α : Type} {p : α → Prop} {a' : α}, (∀ a, a = a' → p a) ↔ p a') ∧
  (∀ {α : Type} {l : List α} {k : Nat} {x y : α}, (l.set k x)[k]? = some y ↔ k < l.length ∧ x = y) ∧
  (∀ {a : Int} {b : List Int} {P : Img → Prop}, (∃ x : Img, a = x.base ∧ b = x.bytes ∧ P x) ↔ P ⟨a, b⟩) ∧
  (∀ {a : Int} {b : List Int} {c : List Region} {P : Memo → Prop}, (∃ x : Memo, a = x.what.base ∧ b = x.what.bytes ∧ c = x.regions ∧ P x) ↔ P ⟨⟨a, b⟩, c⟩) ∧
  (∀ {a b c d : Int} {P : Fixup → Prop}, (∃ x : Fixup, a = x.at_ ∧ b = x.kind ∧ c = x.to ∧ d = x.add ∧ P x) ↔ P ⟨a, b, c, d⟩) ∧
  (∀ {a : Int} {b : List Int} {P : Patch → Prop}, (∃ x : Patch, a = x.at_ ∧ b = x.bytes ∧ P x) ↔ P ⟨a, b⟩) ∧
  (∀ {a : List ByteArray} {b c : List Int} {P : HashT → Prop}, (∃ x : HashT, a = x.names ∧ b = x.first ∧ c = x.next ∧ P x) ↔ P ⟨a, b, c⟩) ∧
  (∀ {a : List Sect} {b : List Sym} {P : Objt → Prop}, (∃ x : Objt, a = x.sects ∧ b = x.syms ∧ P x) ↔ P ⟨a, b⟩) ∧
  (∀ {a : ByteArray} {b c d : Int} {P : Sym → Prop}, (∃ x : Sym, a = x.name ∧ b = x.bind ∧ c = x.wher ∧ d = x.value ∧ P x) ↔ P ⟨a, b, c, d⟩) ∧
  (∀ {a : ByteArray} {b c e : Int} {d : List Int} {f : List Fixup} {P : Sect → Prop}, (∃ x : Sect, a = x.name ∧ b = x.kind ∧ c = x.align ∧ d = x.bytes ∧ e = x.size ∧ f = x.fixups ∧ P x) ↔ P ⟨a, b, c, d, e, f⟩) ∧
  (∀ {a : ByteArray} {b : List Sect} {c : List Sym} {P : Member → Prop}, (∃ x : Member, a = x.name ∧ b = x.what.sects ∧ c = x.what.syms ∧ P x) ↔ P ⟨a, ⟨b, c⟩⟩) ∧
  (∀ {a b : Int} {P : Given → Prop}, (∃ x : Given, a = x.in_ ∧ b = x.at_ ∧ P x) ↔ P ⟨a, b⟩) ∧
  (∀ (x : HashT), HashT.mk x.names x.first x.next = x) ∧
  (∀ (x : Objt), Objt.mk x.sects x.syms = x) ∧
  (∀ (x : Sym), Sym.mk x.name x.bind x.wher x.value = x) ∧
  (∀ (x : Sect), Sect.mk x.name x.kind x.align x.bytes x.size x.fixups = x) ∧
  (∀ (x : Member), Member.mk x.name ⟨x.what.sects, x.what.syms⟩ = x) ∧
  (∀ (x : Given), Given.mk x.in_ x.at_ = x) ∧
  (∀ (x : Img), Img.mk x.base x.bytes = x) ∧
  (∀ (x : Memo), Memo.mk ⟨x.what.base, x.what.bytes⟩ x.regions = x) ∧
  (∀ {α : Type} {l : List α} {n : Nat} {a b : α}, (l.set n a).set n b = l.set n b) ∧
  (∀ {α : Type} {mk : α → Int → α} {c : α → Int} {l : List α} {k : Int} {i : Nat}, (mkd mk c l k i)[i]? = l[i]?) ∧
  (∀ {α : Type} {mk : α → Int → α} {c : α → Int} {l : List α} {k : Int} {i : Nat}, (mkd mk c l k i).length = l.length) ∧
  (∀ {α : Type} {l : List α} {i : Nat} {a : α}, (l.set i a).length = l.length) ∧
  (∀ {α : Type} {x y : α}, (some x = some y) = (x = y)) :=
 ⟨@decide_eq_true_eq, fun {_} [_] => decide_eq_false_iff_not, @Bool.not_eq_true', @Bool.not_eq_false', @and_true, @true_and, @Int.toNat_natCast, fun {_ _ _} => exists_eq_left', fun {_ _ _} => exists_eq_left, fun {_ _ _} => exists_and_left, @Int.not_lt, @Int.not_le, Bool.false_eq_true, @false_implies, fun _ => implies_true _, fun _ => implies_true _, fun {_} _ [_] => forall_const _, fun {_} _ [_] => forall_const _, fun {_ _ _} => List.length_append, fun {_ _ _} => List.length_cons, fun {_} => List.length_nil, @Int.sub_add_cancel, @Int.add_sub_cancel, @and_imp, fun {_ _ _} => forall_eq', fun {_ _ _} => forall_eq, @get_set_iff, @ex_img, @ex_mem, @ex_fix, @ex_pat, @ex_hash, @ex_obj, @ex_sym, @ex_sect, @ex_member, @ex_given, @eta_hash, @eta_obj, @eta_sym, @eta_sect, @eta_member, @eta_given, @eta_img, @eta_mem, fun {_ _ _ _ _} => List.set_set .., @mkd_get, @mkd_len, fun {_ _ _ _} => List.length_set, fun {_ _ _} => Option.some.injEq ..⟩
end Go.Proofs.YtpgglbnagphgoaaGreat
