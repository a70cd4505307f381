/- A small logic of states, part 1: what an operation makes of a state, and that it is so. It is of no program. -/
import Derived.WalkKit
import Derived.WalkSpells
import Derived.Handy
import Derived.IntWalk
import Derived.Orders
import Derived.Laws.Rows
import Derived.Laws.Cover3
import Derived.Laws.StructEq
import Derived.Laws.BytesArg
import Derived.KernelRfl
set_option linter.unusedVariables false
set_option linter.unusedSimpArgs false
/- The data of the program as Lean's, under codes: types, one-cell data, abstract values, memory. No program is in sight. -/
namespace Go.Proofs.YtpgglbnagphgoaaGreat
open Go.RowKit

structure Fixup where
 at_ : Int
 kind : Int
 to : Int
 add : Int
 deriving DecidableEq
structure Sect where
 name : ByteArray
 kind : Int
 align : Int
 bytes : List Int
 size : Int
 fixups : List Fixup
 deriving DecidableEq
structure Sym where
 name : ByteArray
 bind : Int
 wher : Int
 value : Int
 deriving DecidableEq
structure Objt where
 sects : List Sect
 syms : List Sym
 deriving DecidableEq
structure Given where
 in_ : Int
 at_ : Int
 deriving DecidableEq
structure Img where
 base : Int
 bytes : List Int
 deriving DecidableEq
structure Region where
 from_ : Int
 to : Int
 write : Bool
 run : Bool
 deriving DecidableEq
structure Memo where
 what : Img
 regions : List Region
 deriving DecidableEq
structure Patch where
 at_ : Int
 bytes : List Int
 deriving DecidableEq
structure Member where
 name : ByteArray
 what : Objt
 deriving DecidableEq
structure HashT where
 names : List ByteArray
 first : List Int
 next : List Int
 deriving DecidableEq
structure Layout where
 places : List (List Int)
 ends : List (List Int)
 deriving DecidableEq
structure Reader where
 b : List Int
 p : Int
 deriving DecidableEq

inductive SN where
 | fixup | sect | sym | obj | given | img | region | mem | patch | member | hash | layout | reader
 deriving DecidableEq
inductive Ty where
 | int (k : IntKind)
 | bool
 | str
 | list (t : Ty)
 | st (s : SN)
 | junk
 | hol (s : SN)
 deriving DecidableEq

@[reducible] def SN.den : SN → Type
 | .fixup => Fixup
 | .sect => Sect
 | .sym => Sym
 | .obj => Objt
 | .given => Given
 | .img => Img
 | .region => Region
 | .mem => Memo
 | .patch => Patch
 | .member => Member
 | .hash => HashT
 | .layout => Layout
 | .reader => Reader
@[reducible] def Ty.den : Ty → Type
 | .int _ => Int
 | .bool => Bool
 | .str => ByteArray
 | .list t => List t.den
 | .st s => s.den
 | .junk => Unit
 | .hol s => s.den × Bool

structure Cell where
 t : Ty
 x : t.den

abbrev Ty.i : Ty := .int .i64
abbrev Ty.u : Ty := .int .u8
def ci (n : Int) : Cell := ⟨.int .i64, n⟩
def cb (b : Bool) : Cell := ⟨.bool, b⟩
def cs (s : ByteArray) : Cell := ⟨.str, s⟩
def cl (t : Ty) (l : List t.den) : Cell := ⟨.list t, l⟩

def Cell.as (t : Ty) (c : Cell) : Option t.den := if h : c.t = t then some (h ▸ c.x) else none
theorem Cell.as_eq {t : Ty} {x : t.den} {c : Cell} (h : c.as t = some x) : c = ⟨t, x⟩ := by
 obtain ⟨t', y⟩ := c
 unfold Cell.as at h
 split at h
 ·rename_i e
  dsimp only at e
  subst e
  simp at h
  rw [h]
 ·cases h

def SN.sig : SN → List Ty
 | .fixup => [.i, .i, .i, .i]
 | .sect => [.str, .i, .i, .list .u, .i, .list (.st .fixup)]
 | .sym => [.str, .i, .i, .i]
 | .obj => [.list (.st .sect), .list (.st .sym)]
 | .given => [.i, .i]
 | .img => [.i, .list .u]
 | .region => [.i, .i, .bool, .bool]
 | .mem => [.i, .list .u, .list (.st .region)]
 | .patch => [.i, .list .u]
 | .member => [.str, .list (.st .sect), .list (.st .sym)]
 | .hash => [.list .str, .list .i, .list .i]
 | .layout => [.list (.list .i), .list (.list .i)]
 | .reader => [.list .u, .i]
def SN.cells : (s : SN) → s.den → List Cell
 | .fixup, x => [ci x.at_, ci x.kind, ci x.to, ci x.add]
 | .sect, x => [cs x.name, ci x.kind, ci x.align, cl .u x.bytes, ci x.size, cl (.st .fixup) x.fixups]
 | .sym, x => [cs x.name, ci x.bind, ci x.wher, ci x.value]
 | .obj, x => [cl (.st .sect) x.sects, cl (.st .sym) x.syms]
 | .given, x => [ci x.in_, ci x.at_]
 | .img, x => [ci x.base, cl .u x.bytes]
 | .region, x => [ci x.from_, ci x.to, cb x.write, cb x.run]
 | .mem, x => [ci x.what.base, cl .u x.what.bytes, cl (.st .region) x.regions]
 | .patch, x => [ci x.at_, cl .u x.bytes]
 | .member, x => [cs x.name, cl (.st .sect) x.what.sects, cl (.st .sym) x.what.syms]
 | .hash, x => [cl .str x.names, cl .i x.first, cl .i x.next]
 | .layout, x => [cl (.list .i) x.places, cl (.list .i) x.ends]
 | .reader, x => [cl .u x.b, ci x.p]
def SN.mk : (s : SN) → List Cell → Option s.den
 | .fixup, [a, b, c, d] => (a.as .i).bind fun a => (b.as .i).bind fun b => (c.as .i).bind fun c => (d.as .i).bind fun d => some ⟨a, b, c, d⟩
 | .sect, [a, b, c, d, e, f] => (a.as .str).bind fun a => (b.as .i).bind fun b => (c.as .i).bind fun c => (d.as (.list .u)).bind fun d => (e.as .i).bind fun e => (f.as (.list (.st .fixup))).bind fun f => some ⟨a, b, c, d, e, f⟩
 | .sym, [a, b, c, d] => (a.as .str).bind fun a => (b.as .i).bind fun b => (c.as .i).bind fun c => (d.as .i).bind fun d => some ⟨a, b, c, d⟩
 | .obj, [a, b] => (a.as (.list (.st .sect))).bind fun a => (b.as (.list (.st .sym))).bind fun b => some ⟨a, b⟩
 | .given, [a, b] => (a.as .i).bind fun a => (b.as .i).bind fun b => some ⟨a, b⟩
 | .img, [a, b] => (a.as .i).bind fun a => (b.as (.list .u)).bind fun b => some ⟨a, b⟩
 | .region, [a, b, c, d] => (a.as .i).bind fun a => (b.as .i).bind fun b => (c.as .bool).bind fun c => (d.as .bool).bind fun d => some ⟨a, b, c, d⟩
 | .mem, [a, b, c] => (a.as .i).bind fun a => (b.as (.list .u)).bind fun b => (c.as (.list (.st .region))).bind fun c => some ⟨⟨a, b⟩, c⟩
 | .patch, [a, b] => (a.as .i).bind fun a => (b.as (.list .u)).bind fun b => some ⟨a, b⟩
 | .member, [a, b, c] => (a.as .str).bind fun a => (b.as (.list (.st .sect))).bind fun b => (c.as (.list (.st .sym))).bind fun c => some ⟨a, ⟨b, c⟩⟩
 | .hash, [a, b, c] => (a.as (.list .str)).bind fun a => (b.as (.list .i)).bind fun b => (c.as (.list .i)).bind fun c => some ⟨a, b, c⟩
 | .layout, [a, b] => (a.as (.list (.list .i))).bind fun a => (b.as (.list (.list .i))).bind fun b => some ⟨a, b⟩
 | .reader, [a, b] => (a.as (.list .u)).bind fun a => (b.as .i).bind fun b => some ⟨a, b⟩
 | _, _ => none

def Ty.sig : Ty → List Ty
 | .st s => s.sig
 | .hol s => s.sig
 | t => [t]
def junkC : Cell → Cell
 | ⟨.list _, _⟩ => ⟨.junk, ()⟩
 | c => c
def holC : Bool → List Cell → List Cell
 | true, l => l
 | false, l => l.map junkC
def Ty.cells : (t : Ty) → t.den → List Cell
 | .st s, x => s.cells x
 | .int k, x => [⟨.int k, x⟩]
 | .bool, x => [⟨.bool, x⟩]
 | .str, x => [⟨.str, x⟩]
 | .list t, x => [⟨.list t, x⟩]
 | .junk, x => [⟨.junk, x⟩]
 | .hol s, x => holC x.2 (s.cells x.1)
def Ty.mk : (t : Ty) → List Cell → Option t.den
 | .st s, cs => s.mk cs
 | .hol s, cs => (s.mk cs).map fun y => (y, true)
 | .int k, [c] => c.as (.int k)
 | .bool, [c] => c.as .bool
 | .str, [c] => c.as .str
 | .list t, [c] => c.as (.list t)
 | .junk, [c] => c.as .junk
 | _, _ => none
def Ty.wd (t : Ty) : Nat := t.sig.length

theorem SN.cells_sig (s : SN) (x : s.den) : (s.cells x).map (·.t) = s.sig := by cases s <;> rfl
theorem SN.cells_len (s : SN) (x : s.den) : (s.cells x).length = s.sig.length := by rw [← s.cells_sig x, List.length_map]
theorem Ty.cells_len (t : Ty) (x : t.den) : (t.cells x).length = t.wd := by
 cases t
 case st s => exact s.cells_len x
 case hol s =>
  obtain ⟨y, b⟩ := x
  cases b <;> simp [Ty.cells, holC, Ty.wd, Ty.sig, s.cells_len y]
 all_goals rfl
theorem junkC_list {c : Cell} {t : Ty} {l : List t.den} : junkC c ≠ ⟨.list t, l⟩ := by
 obtain ⟨t', x⟩ := c
 cases t' <;> simp [junkC]
theorem Ty.cells_list {t : Ty} {x : t.den} {j : Nat} {t' : Ty} {l : List t'.den} (h : (t.cells x)[j]? = some ⟨.list t', l⟩) : t.sig[j]? = some (.list t') := by
 have key : ∀ (s : SN) (y : s.den), (s.cells y)[j]? = some ⟨.list t', l⟩ → s.sig[j]? = some (.list t') := fun s y h => by
  rw [← s.cells_sig y, List.getElem?_map, h]; rfl
 cases t
 case st s => exact key s x h
 case hol s =>
  obtain ⟨y, b⟩ := x
  cases b with
  | true => exact key s y h
  | false =>
   simp only [Ty.cells, holC, List.getElem?_map, Option.map_eq_some_iff] at h
   obtain ⟨c, _, h⟩ := h
   exact absurd h junkC_list
 all_goals
  cases j with
  | zero => simp only [Ty.cells, List.getElem?_cons_zero, Option.some.injEq] at h; injection h with h1; simp [Ty.sig, h1]
  | succ j => simp [Ty.cells] at h
theorem bind_some_iff {α β : Type} {o : Option α} {f : α → Option β} {y : β} : o.bind f = some y ↔ ∃ x, o = some x ∧ f x = some y := by
 cases o <;> simp
theorem SN.mk_eq {s : SN} {l : List Cell} {x : s.den} (h : s.mk l = some x) : s.cells x = l := by
 cases s <;> rcases l with _ | ⟨a, _ | ⟨b, _ | ⟨c, _ | ⟨d, _ | ⟨e, _ | ⟨f, _ | ⟨g, l⟩⟩⟩⟩⟩⟩⟩ <;> first
  | (simp only [SN.mk, reduceCtorEq] at h; done)
  | skip
 all_goals (
  simp only [SN.mk, bind_some_iff] at h
  repeat (obtain ⟨_, h0, h⟩ := h; have := Cell.as_eq h0; subst this; clear h0)
  simp only [Option.some.injEq] at h
  subst h
  rfl)
theorem Ty.mk_eq {t : Ty} {l : List Cell} {x : t.den} (h : t.mk l = some x) : t.cells x = l := by
 cases t
 case st s => exact SN.mk_eq h
 case hol s =>
  simp only [Ty.mk, Option.map_eq_some_iff] at h
  obtain ⟨y, h1, rfl⟩ := h
  exact SN.mk_eq h1
 all_goals
  rcases l with _ | ⟨a, _ | ⟨b, l⟩⟩
  ·simp [Ty.mk] at h
  ·simp only [Ty.mk] at h
   have := Cell.as_eq h
   subst this
   rfl
  ·simp [Ty.mk] at h
theorem Ty.mk_sig {t : Ty} {l : List Cell} {x : t.den} (h : t.mk l = some x) : (t.cells x).map (·.t) = t.sig := by
 cases t
 case st s => exact s.cells_sig x
 case hol s =>
  simp only [Ty.mk, Option.map_eq_some_iff] at h
  obtain ⟨y, h1, rfl⟩ := h
  exact s.cells_sig y
 all_goals rfl
end Go.Proofs.YtpgglbnagphgoaaGreat
/- The small logic: abstract states, what an operation makes of them, what a body asks. No program is in sight. -/
namespace Go.Proofs.YtpgglbnagphgoaaGreat
open Go.RowKit

inductive A1 where
 | c (x : Cell)
 | lit (b : Bool)
 | nil
 | val (v : Value)
 | ref (id off : Nat)
 | roe (t : Ty) (l : List t.den) (k off : Nat)
 | ptr (id : Nat) (p : List (Nat × Nat)) (k off : Nat)
 | sl (id : Nat) (p : List (Nat × Nat))
 | sub (id lo n : Nat)
 | fn (f : FuncId) (caps : List Nat)
inductive AV where
 | one (a : A1)
 | agg (l : List A1)
 | tup (l : List (Bool × List A1))
inductive Blk where
 | box (lent : Bool) (l : List A1)
 | row (e : Option TypeId) (t : Ty) (l : List t.den) (deep : Bool)
abbrev Fr := List (Nat × AV)
abbrev Tb := List (Nat × Blk)
structure ASt where
 fr : Fr
 tb : Tb
 nx : Nat

def lk.{u} {α : Type u} : List (Nat × α) → Nat → Option α
 | [], _ => none
 | (j, a) :: r, i => bif Nat.beq j i then some a else lk r i
def mem? : List Nat → Nat → Bool
 | [], _ => false
 | j :: r, i => bif Nat.beq j i then true else mem? r i
def erl {α : Type} (d : List Nat) : List (Nat × α) → List (Nat × α)
 | [] => []
 | (j, a) :: r => bif mem? d j then erl d r else (j, a) :: erl d r
def nth {α : Type} : List α → Nat → Option α
 | [], _ => none
 | a :: _, 0 => some a
 | _ :: r, i + 1 => nth r i
def cut {α : Type} : List α → Nat → Nat → Option (List α)
 | _, 0, 0 => some []
 | [], _, _ => none
 | a :: l, 0, n + 1 => (cut l 0 n).map (a :: ·)
 | _ :: l, o + 1, n => cut l o n
def ovr {α : Type} : List α → Nat → List α → Option (List α)
 | l, 0, [] => some l
 | [], _, _ => none
 | _ :: l, 0, b :: bs => (ovr l 0 bs).map (b :: ·)
 | a :: l, o + 1, bs => (ovr l o bs).map (a :: ·)

structure Eff where
 val : AV
 ins : Tb := []
 del : List Nat := []
 kill : List Nat := []
 wr : List (Nat × Nat × A1) := []
inductive SR : Type 1 where
 | ret (e : Eff)
 | req (p : Prop) (r : SR)
 | all (α : Type) (f : α → SR)
 | giv (p : Prop) (r : SR)
 | fork (b : Bool) (r s : SR)
 | bad
namespace SR
def cps : SR → (Eff → Prop) → Prop
 | ret e, K => K e
 | req p r, K => p ∧ r.cps K
 | all _ f, K => ∀ x, (f x).cps K
 | giv p r, K => p → r.cps K
 | fork b r s, K => (b = true → r.cps K) ∧ (b = false → s.cps K)
 | bad, _ => False
def pre : SR → Prop
 | ret _ => True
 | req p r => p ∧ r.pre
 | all _ f => ∀ x, (f x).pre
 | giv p r => p → r.pre
 | fork b r s => (b = true → r.pre) ∧ (b = false → s.pre)
 | bad => False
def outs : SR → Eff → Prop
 | ret e, e' => e' = e
 | req _ r, e' => r.outs e'
 | all _ f, e' => ∃ x, (f x).outs e'
 | giv p r, e' => p ∧ r.outs e'
 | fork b r s, e' => (b = true ∧ r.outs e') ∨ (b = false ∧ s.outs e')
 | bad, _ => False
def hit : SR → (Eff → Prop) → Prop
 | ret e, K => K e
 | req _ r, K => r.hit K
 | all _ f, K => ∃ x, (f x).hit K
 | giv p r, K => r.hit fun e => K e ∧ p
 | fork b r s, K => (b = true ∧ r.hit K) ∨ (b = false ∧ s.hit K)
 | bad, _ => False
def opt {α : Type} (o : Option α) (f : α → SR) : SR := match o with | some x => f x | none => bad
def onE : SR → (Eff → SR) → SR
 | ret e, g => g e
 | req p r, g => req p (r.onE g)
 | all α f, g => all α fun x => (f x).onE g
 | giv p r, g => giv p (r.onE g)
 | fork b r s, g => fork b (r.onE g) (s.onE g)
 | bad, _ => bad
theorem cps_iff (r : SR) (K : Eff → Prop) : r.cps K ↔ r.pre ∧ ∀ e, r.outs e → K e := by
 induction r with
 | ret e => simp [cps, pre, outs]
 | req p r ih => simp [cps, pre, outs, ih, and_assoc]
 | all α f ih =>
  simp only [cps, pre, outs, ih]
  exact ⟨fun h => ⟨fun x => (h x).1, fun e ⟨x, hx⟩ => (h x).2 e hx⟩, fun h x => ⟨h.1 x, fun e he => h.2 e ⟨x, he⟩⟩⟩
 | giv p r ih =>
  simp only [cps, pre, outs, ih]
  exact ⟨fun h => ⟨fun hp => (h hp).1, fun e ⟨hp, he⟩ => (h hp).2 e he⟩, fun h hp => ⟨h.1 hp, fun e he => h.2 e ⟨hp, he⟩⟩⟩
 | fork b r s ih1 ih2 => cases b <;> simp [cps, pre, outs, ih1, ih2]
 | bad => simp [cps, pre]
theorem hit_iff (r : SR) (K : Eff → Prop) : r.hit K ↔ ∃ e, r.outs e ∧ K e := by
 induction r generalizing K with
 | ret e => simp [hit, outs]
 | req p r ih => simp [hit, outs, ih]
 | all α f ih =>
  simp only [hit, outs, ih]
  exact ⟨fun ⟨x, e, h, k⟩ => ⟨e, ⟨x, h⟩, k⟩, fun ⟨e, ⟨x, h⟩, k⟩ => ⟨x, e, h, k⟩⟩
 | giv p r ih =>
  simp only [hit, outs, ih]
  exact ⟨fun ⟨e, h, k, hp⟩ => ⟨e, ⟨hp, h⟩, k⟩, fun ⟨e, ⟨hp, h⟩, k⟩ => ⟨e, h, k, hp⟩⟩
 | fork b r s ih1 ih2 => cases b <;> simp [hit, outs, ih1, ih2]
 | bad => simp [hit, outs]
end SR
open SR (opt)

def okI : IntKind → Int → Prop
 | .i64, n => -9223372036854775808 ≤ n ∧ n ≤ 9223372036854775807
 | .u8, n => 0 ≤ n ∧ n ≤ 255
 | .u64, n => 0 ≤ n ∧ n ≤ 18446744073709551615
 | .i32, n => -2147483648 ≤ n ∧ n ≤ 2147483647
 | .u32, n => 0 ≤ n ∧ n ≤ 4294967295
 | .i8, n => -128 ≤ n ∧ n ≤ 127
 | .u16, n => 0 ≤ n ∧ n ≤ 65535
 | .i16, n => -32768 ≤ n ∧ n ≤ 32767
instance (k : IntKind) (n : Int) : Decidable (okI k n) := by cases k <;> (unfold okI; infer_instance)
def OkC : Cell → Prop
 | ⟨.int k, n⟩ => okI k n
 | ⟨.bool, _⟩ => True
 | ⟨.str, s⟩ => s.size ≤ 9223372036854775807
 | ⟨.list _, l⟩ => l.length ≤ 9223372036854775807
 | ⟨.st _, _⟩ => False
 | ⟨.junk, _⟩ => True
 | ⟨.hol _, _⟩ => False
def OkL : List Cell → Prop
 | [] => True
 | [c] => OkC c
 | c :: l => OkC c ∧ OkL l
def Ok (t : Ty) (x : t.den) : Prop := OkL (t.cells x)

section steps
variable (P : Program)

def cst1 : Value → A1
 | .int k n => if okI k n then .c ⟨.int k, n⟩ else .val (.int k n)
 | .bool b => .lit b
 | .string s => bif Nat.ble s.size 9223372036854775807 then .c (cs s) else .val (.string s)
 | .slice none 0 0 => .nil
 | v => .val v
def cst : Value → AV
 | .agg cs => bif cs.toList.all Value.oneCell' then .agg (cs.toList.map cst1) else .one (.val (.agg cs))
 | v => .one (cst1 v)
def ASt.ev (st : ASt) : Operand → Option AV
 | .tmp t => lk st.fr t
 | .const v => some (cst v)
 | .func f => some (.one (.fn f []))
 | .global _ => none
def ASt.ev1 (st : ASt) (x : Operand) : Option A1 :=
 match st.ev x with
 | some (.one a) => some a
 | _ => none
def tinfo (t : TypeId) : Option (Nat × Bool) :=
 match P.info? t, P.underlying t with
 | some i, some d => some (i.size, match d with | .struct _ | .array _ _ => true | _ => false)
 | _, _ => none
def v1 (a : A1) : SR := .ret { val := .one a }
def vc (t : Ty) (x : t.den) : SR := .ret { val := .one (.c ⟨t, x⟩) }
def avOf (agg : Bool) (l : List A1) : Option AV := bif agg then some (.agg l) else match l with | [a] => some (.one a) | _ => none
def one1 : A1 → Bool
 | .val (.agg _) => false
 | .val (.tuple _) => false
 | _ => true
def AV.cells : AV → Option (List A1)
 | .one a => bif one1 a then some [a] else none
 | .agg l => some l
 | .tup _ => none

def elSR : (t : Ty) → List t.den → Nat → (List Cell → SR) → SR
 | .hol s, l, k, f => .req (∃ y : s.den, l[k]? = some (y, true)) (.all s.den fun y => .giv (l[k]? = some (y, true)) (f (s.cells y)))
 | t, l, k, f => .all t.den fun x => .giv (l[k]? = some x) (f (t.cells x))
def elSR0 : (t : Ty) → List t.den → Nat → (List Cell → SR) → SR
 | .hol s, l, k, f => .req (∃ y : s.den, l[k]? = some (y, false)) (.all s.den fun y => .giv (l[k]? = some (y, false)) (f ((s.cells y).map junkC)))
 | t, l, k, f => .all t.den fun x => .giv (l[k]? = some x) (f (t.cells x))
def ldEl : (t : Ty) → List t.den → Nat → (List Cell → SR) → SR
 | .hol s, l, k, f => .req (∃ y : s.den, l[k]? = some (y, true)) (.all s.den fun y => .giv (l[k]? = some (y, true)) (.giv (Ok (.st s) y) (f (s.cells y))))
 | t, l, k, f => .all t.den fun x => .giv (l[k]? = some x) (.giv (Ok t x) (f (t.cells x)))
def pathSR : (t : Ty) → List t.den → List (Nat × Nat) → ((t : Ty) → List t.den → SR) → SR
 | t, l, [], f => f t l
 | t, l, (k, off) :: p, f => elSR t l k fun cs => (match nth cs off with
  | some ⟨.list t', l'⟩ => pathSR t' l' p f
  | _ => .bad)
def updSR : (t : Ty) → List t.den → List (Nat × Nat) → ((t : Ty) → List t.den → (List t.den → SR) → SR) → (List t.den → SR) → SR
 | t, l, [], g, f => g t l f
 | t, l, (k, off) :: p, g, f => elSR t l k fun cs0 => (match nth cs0 off with
  | some ⟨.list t', l'⟩ => updSR t' l' p g fun l'' => opt (ovr cs0 off [⟨.list t', l''⟩]) fun cs => opt (t.mk cs) fun x' => f (l.set k x')
  | _ => .bad)
def elemSR (k off : Nat) (vs : List Cell) (t : Ty) (l : List t.den) (f : List t.den → SR) : SR :=
 elSR0 t l k fun cs0 => opt (ovr cs0 off vs) fun cs => opt (t.mk cs) fun x' => f (l.set k x')

def decC (tb : Tb) (ty : Ty) (a : A1) (f : Cell → SR) : SR :=
 match a with
 | .c x => if x.t = ty then f x else .bad
 | .lit b => if ty = .bool then f (cb b) else .bad
 | .nil => match ty with | .list t => f ⟨.list t, []⟩ | _ => .bad
 | .sl id p => match lk tb id with
  | some (.row _ t l _) => pathSR t l p fun t' l' => if Ty.list t' = ty then f ⟨.list t', l'⟩ else .bad
  | _ => .bad
 | .sub id lo n => match lk tb id with
  | some (.row _ t l _) => if Ty.list t = ty then f ⟨.list t, (l.drop lo).take n⟩ else .bad
  | _ => .bad
 | _ => .bad
def decL (tb : Tb) : List Ty → List A1 → (List Cell → SR) → SR
 | [], [], f => f []
 | ty :: tys, a :: r, f => decC tb ty a fun c => decL tb tys r fun l => f (c :: l)
 | _, _, _ => .bad
def decT (tb : Tb) (t : Ty) (l : List A1) (f : t.den → SR) : SR := decL tb t.sig l fun l => opt (t.mk l) f
def Ty.isSt : Ty → Bool
 | .st _ => true
 | .hol _ => true
 | _ => false
def decV (tb : Tb) (t : Ty) (v : AV) (f : t.den → SR) : SR :=
 match v with
 | .agg l => bif t.isSt then decT tb t l f else .bad
 | .one a => bif t.isSt then .bad else decT tb t [a] f
 | .tup _ => .bad

def flat (t : Ty) : Bool := t.sig.all fun | .list _ => false | _ => true
def own1 (tb : Tb) (a : A1) : Bool × List Nat :=
 match a with
 | .c ⟨.list _, _⟩ => (false, [])
 | .sl id _ => match lk tb id with | some (.row _ _ _ true) => (true, [id]) | _ => (false, [id])
 | .sub id _ _ => (false, [id])
 | _ => (true, [])
def own0 (tb : Tb) (a : A1) : Bool × List Nat :=
 match a with
 | .c ⟨.list _, _⟩ => (false, [])
 | .sl id [] => match lk tb id with | some (.row _ _ _ true) => (true, [id]) | _ => (false, [id])
 | .sl id _ => (false, [id])
 | .sub id _ _ => (false, [id])
 | _ => (true, [])
def ownL (tb : Tb) : List A1 → Bool × List Nat
 | [] => (true, [])
 | a :: l => let (b, d) := own1 tb a; let (b', d') := ownL tb l; (b && b', d ++ d')
def nodup? : List Nat → Bool
 | [] => true
 | i :: l => !mem? l i && nodup? l
def groups (n : Nat) : Nat → List A1 → Option (List (List A1))
 | 0, [] => some []
 | 0, _ => none
 | m + 1, l => match cut l 0 n with
  | some g => (groups n m (l.drop n)).map (g :: ·)
  | none => none
def decR (tb : Tb) (t : Ty) : List (List A1) → (List t.den → SR) → SR
 | [], f => f []
 | g :: gs, f => decT tb t g fun x => decR tb t gs fun l => f (x :: l)
def fillA (place : Nat → Option (Nat × Nat)) (st : ASt) (cells : List A1) : List (Nat × Operand) → Option (List A1)
 | [] => some cells
 | (i, x) :: rest => match place i, (st.ev x).bind AV.cells with
  | some (off, size), some vs => bif Nat.beq vs.length size then (match ovr cells off vs with | some cs => fillA place st cs rest | none => none) else none
  | _, _ => none
def rep {α : Type} (l : List α) : Nat → List α
 | 0 => []
 | n + 1 => l ++ rep l n
def zeros (v : Value) : Option (List A1) := bif v.cells.toList.all Value.oneCell' then some (v.cells.toList.map cst1) else none
def asA1 (id : Nat) (p : List (Nat × Nat)) (k : Nat) (deep : Bool) : Nat → List Cell → List A1
 | _, [] => []
 | off, c :: l => (match c with
  | ⟨.list t, x⟩ => bif deep then A1.sl id (p ++ [(k, off)]) else A1.c ⟨.list t, x⟩
  | c => .c c) :: asA1 id p k deep (off + 1) l

def decB (p : Prop) [Decidable p] : SR := vc .bool (decide p)
def strLt (a b : ByteArray) : Bool := Op.bytesLess a.toList b.toList
def strAt (s : ByteArray) (i : Nat) : Int := ((s.data.toList.getD i 0).toNat : Int)
def bitI (op : BinOp) (k : IntKind) (x y : Int) : Int :=
 match op with
 | .and => k.wrap ((BitVec.ofInt k.bits x &&& BitVec.ofInt k.bits y).toNat)
 | .or => k.wrap ((BitVec.ofInt k.bits x ||| BitVec.ofInt k.bits y).toNat)
 | .xor => k.wrap ((BitVec.ofInt k.bits x ^^^ BitVec.ofInt k.bits y).toNat)
 | _ => 0
def fitI (wr : Bool) (k : IntKind) (z : Int) : SR := bif wr then vc (.int k) (k.wrap z) else .req (okI k z) (vc (.int k) z)
def binI (wr : Bool) (op : BinOp) (k : IntKind) (x y : Int) : SR :=
 match op with
 | .add => fitI wr k (x + y)
 | .sub => fitI wr k (x - y)
 | .mul => fitI wr k (x * y)
 | .quo => .req (0 ≤ x ∧ 0 < y) (vc (.int k) (x / y))
 | .rem => .req (0 ≤ x ∧ 0 < y) (vc (.int k) (x % y))
 | .and => .giv (okI k (bitI .and k x y)) (vc (.int k) (bitI .and k x y))
 | .or => .giv (okI k (bitI .or k x y)) (vc (.int k) (bitI .or k x y))
 | .xor => .giv (okI k (bitI .xor k x y)) (vc (.int k) (bitI .xor k x y))
 | .eql => decB (x = y)
 | .neq => decB (x ≠ y)
 | .lss => decB (x < y)
 | .leq => decB (x ≤ y)
 | .gtr => decB (y < x)
 | .geq => decB (y ≤ x)
 | _ => .bad
def binS (op : BinOp) (x y : ByteArray) : SR :=
 match op with
 | .add => .req (x.size + y.size ≤ 9223372036854775807) (vc .str (x ++ y))
 | .eql => decB (x = y)
 | .neq => decB (x ≠ y)
 | .lss => vc .bool (strLt x y)
 | .leq => vc .bool (strLt x y || decide (x = y))
 | _ => .bad
def nilS (op : BinOp) (t : Ty) (l : List t.den) : SR :=
 .all Bool fun b => .giv (b = true → l = []) (match op with | .eql => vc .bool b | .neq => vc .bool (!b) | _ => .bad)
def eqC : A1 → A1 → Option Bool
 | .c ⟨.int k, x⟩, .c ⟨.int k', y⟩ => if k = k' then some (decide (x = y)) else none
 | .c ⟨.str, x⟩, .c ⟨.str, y⟩ => some (decide (x = y))
 | .c ⟨.bool, x⟩, .c ⟨.bool, y⟩ => some (decide (x = y))
 | _, _ => none
def eqL : List A1 → List A1 → Option Bool
 | [], [] => some true
 | a :: l, b :: m => match eqC a b, eqL l m with | some x, some y => some (x && y) | _, _ => none
 | _, _ => none
def negS (k : IntKind) (n : Int) : SR := .req (okI k (-n)) (vc (.int k) (-n))
def shlS (k : IntKind) (a b : Int) : SR := .req (0 ≤ b ∧ b < k.bits ∧ okI k (a * 2 ^ b.toNat)) (vc (.int k) (a * 2 ^ b.toNat))
def shrS (k : IntKind) (a b : Int) : SR := .req (0 ≤ a ∧ 0 ≤ b ∧ b < k.bits) (vc (.int k) (a / 2 ^ b.toNat))
def fldOk (t : TypeId) : A1 → Bool
 | .c ⟨.int _, _⟩ => (match P.underlying t with | some (.int _) => true | _ => false)
 | .c ⟨.str, _⟩ => (match P.underlying t with | some .string => true | _ => false)
 | .c ⟨.bool, _⟩ => (match P.underlying t with | some .bool => true | _ => false)
 | _ => false
def fldsOk : List Field → Nat → List A1 → Bool
 | [], _, [] => true
 | f :: fs, i, a :: l => decide (f.name ≠ "_") && Nat.beq f.offset i && fldOk P f.type a && fldsOk fs (i + 1) l
 | _, _, _ => false
def structOk (t : TypeId) (l : List A1) : Bool :=
 match P.underlying t with
 | some (.struct fs) => fldsOk P fs.toList 0 l && !P.stoodInHeld t && !P.eqGuardType P.depth t
 | _ => false
def isBool (t : TypeId) : Bool := match P.underlying t with | some .bool => true | _ => false
def isSlice (t : TypeId) : Bool := match P.underlying t with | some (.slice _) => true | _ => false
def binA (wr : Bool) (tb : Tb) (op : BinOp) (t : TypeId) (x y : AV) : SR :=
 match x, y with
 | .one (.c ⟨.int k, a⟩), .one (.c ⟨.int k', b⟩) => if k = k' then (match op with
   | .shl => shlS k a b
   | .shr => shrS k a b
   | _ => binI wr op k a b)
  else (match op with
   | .shl => shlS k a b
   | .shr => shrS k a b
   | _ => .bad)
 | .one (.c ⟨.str, a⟩), .one (.c ⟨.str, b⟩) => binS op a b
 | .one (.c ⟨.bool, a⟩), .one (.c ⟨.bool, b⟩) => bif isBool P t then (match op with | .eql => decB (a = b) | .neq => decB (a ≠ b) | _ => .bad) else .bad
 | .one (.c ⟨.list ty, l⟩), .one .nil => bif isSlice P t then nilS op ty l else .bad
 | .one (.sl id p), .one .nil => bif isSlice P t then (match lk tb id with
  | some (.row _ ty l _) => pathSR ty l p fun ty l => nilS op ty l
  | _ => .bad) else .bad
 | .agg l, .agg m => bif structOk P t l then (match op, eqL l m with | .eql, some b => vc .bool b | .neq, some b => vc .bool (!b) | _, _ => .bad) else .bad
 | _, _ => .bad
def convK (k' k : IntKind) (n : Int) : SR :=
 match k', k with
 | .u8, _ => vc .u (n % 256)
 | .i64, .u64 => .req (n ≤ 9223372036854775807) (vc .i n)
 | .i64, _ => vc .i n
 | .u64, _ => .req (0 ≤ n) (vc (.int .u64) n)
 | _, _ => .bad
def strOf (l : List Int) : ByteArray := ⟨(l.map fun n => UInt8.ofNat n.toNat).toArray⟩
def lenS (n : Nat) : SR := .giv (n ≤ 9223372036854775807) (vc .i (n : Int))
def idxS (i : Int) (n : Nat) (r : SR) : SR := .req (0 ≤ i ∧ i < n) r
def listOf (tb : Tb) (a : A1) (f : (t : Ty) → List t.den → SR) : SR :=
 match a with
 | .c ⟨.list t, l⟩ => f t l
 | .sl id p => (match lk tb id with | some (.row _ t l _) => pathSR t l p f | _ => .bad)
 | .sub id lo n => (match lk tb id with | some (.row _ t l _) => f t ((l.drop lo).take n) | _ => .bad)
 | _ => .bad
def thru1 (ids : List Nat) : A1 → Bool
 | .sl id (_ :: _) => mem? ids id
 | .ptr id (_ :: _) _ _ => mem? ids id
 | _ => false
def thruL (ids : List Nat) : List A1 → Bool
 | [] => false
 | a :: l => thru1 ids a || thruL ids l
def thruT (ids : List Nat) : List (Bool × List A1) → Bool
 | [] => false
 | a :: l => thruL ids a.2 || thruT ids l
def AV.thru (ids : List Nat) : AV → Bool
 | .one a => thru1 ids a
 | .agg l => thruL ids l
 | .tup l => thruT ids l
def dropT (ids : List Nat) : Fr → Fr
 | [] => []
 | (i, v) :: r => bif v.thru ids then erl [i] (dropT ids r) else (i, v) :: dropT ids r
def boxT (ids : List Nat) : Tb → Bool
 | [] => false
 | (_, .box _ l) :: r => thruL ids l || boxT ids r
 | _ :: r => boxT ids r
def men1 (id : Nat) : A1 → Bool
 | .ref i _ => Nat.beq i id
 | .ptr i _ _ _ => Nat.beq i id
 | .sl i _ => Nat.beq i id
 | .sub i _ _ => Nat.beq i id
 | .fn _ caps => mem? caps id
 | _ => false
def menL (id : Nat) : List A1 → Bool
 | [] => false
 | a :: l => men1 id a || menL id l
def menT (id : Nat) : List (Bool × List A1) → Bool
 | [] => false
 | a :: l => menL id a.2 || menT id l
def AV.men (id : Nat) : AV → Bool
 | .one a => men1 id a
 | .agg l => menL id l
 | .tup l => menT id l
def menF (id : Nat) : Fr → Bool
 | [] => false
 | (_, v) :: r => v.men id || menF id r
def menB (id : Nat) : Tb → Bool
 | [] => false
 | (i, b) :: r => Nat.beq i id || (match b with | .box _ l => menL id l | _ => false) || menB id r
def ASt.fresh (st : ASt) (id : Nat) : Bool := Nat.ble 20 id && !menF id st.fr && !menB id st.tb

def putF (dst : Option Nat) (v : AV) (fr : Fr) : Fr := match dst with | some d => (d, v) :: fr | none => fr
def killF (kill : List Nat) (fr : Fr) : Fr := match kill with | [] => fr | _ => dropT kill fr
def Eff.app (st : ASt) (dst : Option Nat) (e : Eff) : ASt :=
 { fr := putF dst e.val (killF e.kill st.fr), tb := e.ins ++ erl e.del st.tb, nx := st.nx }


inductive CT where
 | ty (t : Ty)
 | fn (f : FuncId) (caps : List Ty)
inductive PT where
 | ro (t : Ty)
 | box (c : CT)
 | row (e : Option TypeId) (t : Ty)
 | own (t : SN)
 | fn (f : FuncId) (caps : List CT)
@[reducible] def TyL : List Ty → Type
 | [] => Unit
 | t :: l => t.den × TyL l
@[reducible] def CT.den : CT → Type
 | .ty t => t.den
 | .fn _ caps => TyL caps
@[reducible] def CTL : List CT → Type
 | [] => Unit
 | c :: l => c.den × CTL l
@[reducible] def PT.den : PT → Type
 | .ro t => t.den
 | .box c => c.den
 | .row _ t => List t.den
 | .own s => s.den
 | .fn _ caps => CTL caps
@[reducible] def PTL : List PT → Type
 | [] => Unit
 | p :: l => p.den × PTL l
structure Con where
 ps : List PT
 out : PTL ps → SR
 det : Bool := true
structure Cfg where
 ty : TypeId → Option Ty
 con : FuncId → Option Con
 wr : Bool := false

def decTyL (tb : Tb) : (l : List Ty) → List Nat → (TyL l → SR) → SR
 | [], [], f => f ()
 | t :: l, id :: ids, f => match lk tb id with
  | some (.box _ vs) => decT tb t vs fun x => decTyL tb l ids fun y => f (x, y)
  | _ => .bad
 | _, _, _ => .bad
def decCT (tb : Tb) (id : Nat) : (c : CT) → (c.den → SR) → SR
 | .ty t, f => match lk tb id with
  | some (.box _ vs) => decT tb t vs f
  | _ => .bad
 | .fn g caps, f => match lk tb id with
  | some (.box _ [.fn g' ids]) => bif Nat.beq g' g then decTyL tb caps ids f else .bad
  | _ => .bad
def decCTL (tb : Tb) : (l : List CT) → List Nat → (CTL l → SR) → SR
 | [], [], f => f ()
 | c :: l, id :: ids, f => decCT tb id c fun x => decCTL tb l ids fun y => f (x, y)
 | _, _, _ => .bad
def decO1 (tb : Tb) (ty : Ty) (a : A1) (f : Cell → SR) : SR :=
 match a with
 | .c ⟨.list _, _⟩ => .bad
 | .c x => if x.t = ty then f x else .bad
 | .lit b => if ty = .bool then f (cb b) else .bad
 | .sl id [] => match lk tb id with
  | some (.row _ t l true) => if Ty.list t = ty then f ⟨.list t, l⟩ else .bad
  | _ => .bad
 | _ => .bad
def decO (tb : Tb) : List Ty → List A1 → (List Cell → SR) → SR
 | [], [], f => f []
 | ty :: tys, a :: r, f => decO1 tb ty a fun c => decO tb tys r fun l => f (c :: l)
 | _, _, _ => .bad
def idsO : List A1 → List Nat
 | [] => []
 | .sl id [] :: l => id :: idsO l
 | _ :: l => idsO l
def encO (n : Nat) : List Cell → List A1 × Tb × Nat
 | [] => ([], [], n)
 | ⟨.list t, x⟩ :: cs => let (l, tb, m) := encO (n + 1) cs; (.sl n [] :: l, (n, .row none t x true) :: tb, m)
 | c :: cs => let (l, tb, m) := encO n cs; (.c c :: l, tb, m)
def decPT (tb : Tb) : (p : PT) → AV → (p.den → SR) → SR
 | .ro t, v, f => decV tb t v f
 | .box c, .one (.ref id 0), f => decCT tb id c f
 | .row e t, .one (.sl id []), f => match lk tb id with
  | some (.row e' t' l true) => if h : t' = t then (bif (match e with | none => true | some _ => decide (e' = e)) then f (h ▸ l) else .bad) else .bad
  | _ => .bad
 | .own s, .agg l, f => decO tb s.sig l fun cs => opt (s.mk cs) f
 | .fn g caps, .one (.fn g' ids), f => bif Nat.beq g' g then decCTL tb caps ids f else .bad
 | _, _, _ => .bad
def decPTL (tb : Tb) : (l : List PT) → List AV → (PTL l → SR) → SR
 | [], [], f => f ()
 | p :: l, v :: vs, f => decPT tb p v fun x => decPTL tb l vs fun y => f (x, y)
 | _, _, _ => .bad
def idsCT (tb : Tb) (id : Nat) : CT → Option (List Nat)
 | .ty _ => some [id]
 | .fn _ _ => match lk tb id with
  | some (.box _ [.fn _ ids]) => some (id :: ids)
  | _ => none
def idsCTL (tb : Tb) : List CT → List Nat → Option (List Nat)
 | [], [] => some []
 | c :: l, id :: ids => (idsCT tb id c).bind fun x => (idsCTL tb l ids).map (x ++ ·)
 | _, _ => none
def idsPT (tb : Tb) : PT → AV → Option (List Nat)
 | .ro _, _ => some []
 | .box c, .one (.ref id 0) => idsCT tb id c
 | .row _ _, .one (.sl id []) => some [id]
 | .own _, .agg l => some (idsO l)
 | .fn _ caps, .one (.fn _ ids) => idsCTL tb caps ids
 | _, _ => none
def idsPTL (tb : Tb) : List PT → List AV → Option (List Nat)
 | [], [] => some []
 | p :: l, v :: vs => (idsPT tb p v).bind fun x => (idsPTL tb l vs).map (x ++ ·)
 | _, _ => none

def avT (t : Ty) (x : t.den) : AV := bif t.isSt then .agg ((t.cells x).map .c) else .one (.c ⟨t, x⟩)
def boxOf (t : Ty) (x : t.den) : Blk := .box true ((t.cells x).map .c)
def encTyL (n : Nat) : (l : List Ty) → TyL l → Tb
 | [], _ => []
 | t :: l, x => (n, boxOf t x.1) :: encTyL (n + 1) l x.2
def from? (n : Nat) : Nat → List Nat
 | 0 => []
 | m + 1 => n :: from? (n + 1) m
def encCT (n : Nat) : (c : CT) → c.den → Tb × Nat
 | .ty t, x => ([(n, boxOf t x)], n + 1)
 | .fn g caps, x => ((n, .box true [.fn g (from? (n + 1) caps.length)]) :: encTyL (n + 1) caps x, n + 1 + caps.length)
def encCTL (n : Nat) : (l : List CT) → CTL l → List Nat × Tb × Nat
 | [], _ => ([], [], n)
 | c :: l, x => let (tb, m) := encCT n c x.1; let (ids, tb', k) := encCTL m l x.2; (n :: ids, tb ++ tb', k)
def encPT (n : Nat) : (p : PT) → p.den → AV × Tb × Nat
 | .ro t, x => (avT t x, [], n)
 | .box c, x => let (tb, m) := encCT n c x; (.one (.ref n 0), tb, m)
 | .row e t, x => (.one (.sl n []), [(n, .row e t x true)], n + 1)
 | .own s, x => let (l, tb, m) := encO n (s.cells x); (.agg l, tb, m)
 | .fn g caps, x => let (ids, tb, m) := encCTL n caps x; (.one (.fn g ids), tb, m)
def encPTL (n : Nat) : (l : List PT) → PTL l → List AV × Tb × Nat
 | [], _ => ([], [], n)
 | p :: l, x => let (v, tb, m) := encPT n p x.1; let (vs, tb', k) := encPTL m l x.2; (v :: vs, tb ++ tb', k)

def mapId (bs : List Nat) (base i : Nat) : Nat := bif Nat.blt i 100 then (match nth bs i with | some b => b | none => base + 15) else bif Nat.blt i 108 then base + 2 * (i - 100) else base + 15
def map1 (bs : List Nat) (base : Nat) : A1 → A1
 | .ref i off => .ref (mapId bs base i) off
 | .ptr i p k off => .ptr (mapId bs base i) p k off
 | .sl i p => .sl (mapId bs base i) p
 | .sub i lo n => .sub (mapId bs base i) lo n
 | .fn f caps => .fn f (caps.map (mapId bs base))
 | a => a
def mapV (bs : List Nat) (base : Nat) : AV → AV
 | .one a => .one (map1 bs base a)
 | .agg l => .agg (l.map (map1 bs base))
 | .tup l => .tup (l.map fun p => (p.1, p.2.map (map1 bs base)))
def mapB (bs : List Nat) (base : Nat) : Blk → Blk
 | .box _ l => .box false (l.map (map1 bs base))
 | b => b
def num1 : A1 → Bool
 | .c ⟨.list _, _⟩ => false
 | .c ⟨.junk, _⟩ => false
 | .c _ => true
 | .lit _ => true
 | _ => false
def wrL (tb : Tb) : List (Nat × Nat × A1) → Option Tb
 | [] => some tb
 | (i, off, a) :: r => (wrL tb r).bind fun tb => match lk tb i with
  | some (.box b vs) => bif num1 a then (ovr vs off [a]).map fun vs => (i, .box b vs) :: erl [i] tb else none
  | _ => none
def insL (tb : Tb) : Tb → Tb
 | [] => tb
 | (i, b) :: r => (i, b) :: erl [i] (insL tb r)
def mergeL : List A1 → List A1 → Option (List A1)
 | [], [] => some []
 | a :: l, c :: m => (mergeL l m).map ((bif num1 c then c else a) :: ·)
 | _, _ => none
def lentT (tb T : Tb) : List Nat → Nat → Option Tb
 | [], _ => some []
 | id :: l, i => (lentT tb T l (i + 1)).bind fun m => match lk tb id, lk T i with
  | some (.box f vs), some (.box true cs) => (mergeL vs cs).map fun vs => (id, .box f vs) :: m
  | some (.row _ t0 _ _), some (.row e t l d) => if t = t0 then some ((id, .row e t l d) :: m) else none
  | _, _ => none
def newT (bs : List Nat) (base : Nat) : Tb → Tb
 | [] => []
 | (i, b) :: r => bif Nat.blt i 100 || !Nat.blt i 108 then newT bs base r else (base + 2 * (i - 100), mapB bs base b) :: newT bs base r
def ro1 : A1 → Bool
 | .c ⟨.list _, _⟩ => true
 | .roe _ _ _ _ => true
 | _ => false
def roL : List A1 → Bool
 | [] => false
 | a :: l => ro1 a || roL l
def roT : List (Bool × List A1) → Bool
 | [] => false
 | a :: l => roL a.2 || roT l
def AV.ro : AV → Bool
 | .one a => ro1 a
 | .agg l => roL l
 | .tup l => roT l
def roB : Tb → Bool
 | [] => false
 | (_, .box _ l) :: r => roL l || roB r
 | (_, .row _ t _ d) :: r => (!d && !flat t) || roB r
def rows1 : A1 → List Nat
 | .sl id _ => [id]
 | .sub id _ _ => [id]
 | _ => []
def rowsV : AV → List Nat
 | .one a => rows1 a
 | .agg l => l.flatMap rows1
 | .tup _ => []
def rowsP : List PT → List AV → List Nat
 | .ro _ :: ps, v :: vs => rowsV v ++ rowsP ps vs
 | _ :: ps, _ :: vs => rowsP ps vs
 | _, _ => []
def rowsB (tb : Tb) : List Nat → List Nat
 | [] => []
 | id :: l => (match lk tb id with | some (.box _ vs) => vs.flatMap rows1 | _ => []) ++ rowsB tb l
def killOf (tb : Tb) : List Nat → List Nat
 | [] => []
 | id :: l => match lk tb id with | some (.row _ _ _ _) => id :: killOf tb l | _ => killOf tb l
def outR (n i : Nat) : Bool := Nat.blt i n || Nat.ble (n + 16) i
def bel1 (n : Nat) : A1 → Bool
 | .ref i _ => outR n i
 | .ptr i _ _ _ => outR n i
 | .sl i _ => outR n i
 | .sub i _ _ => outR n i
 | .fn _ caps => caps.all fun i => outR n i
 | _ => true
def belV (n : Nat) : AV → Bool
 | .one a => bel1 n a
 | .agg l => l.all (bel1 n)
 | .tup l => l.all fun p => p.2.all (bel1 n)
def belF (n : Nat) : Fr → Bool
 | [] => true
 | (_, v) :: r => belV n v && belF n r
def belB (n : Nat) : Tb → Bool
 | [] => true
 | (i, b) :: r => outR n i && (match b with | .box _ l => l.all (bel1 n) | _ => true) && belB n r
def ASt.bel (st : ASt) (n : Nat) : Bool := Nat.ble 20 n && belF n st.fr && belB n st.tb
def callSR (Γ : Cfg) (base : Nat) (st : ASt) (f : FuncId) (args : List AV) : SR :=
 match Γ.con f with
 | none => .bad
 | some C => bif st.bel base then opt (idsPTL st.tb C.ps args) fun bs =>
   bif nodup? bs && Nat.ble bs.length 20 && (rowsP C.ps args ++ rowsB st.tb bs).all (fun i => !mem? bs i) && !boxT (killOf st.tb bs) st.tb && bs.all (fun i => (lk st.tb i).isSome) then decPTL st.tb C.ps args fun x =>
    (C.out x).onE fun e => opt (wrL (encPTL 0 C.ps x).2.1 e.wr) fun tb1 => opt (lentT st.tb (insL tb1 e.ins) bs 0) fun m =>
     .ret { val := mapV bs base e.val, ins := m ++ newT bs base (insL tb1 e.ins), del := (bif e.val.ro || roB e.ins then rowsP C.ps args ++ rowsB st.tb bs else []), kill := killOf st.tb bs }
   else .bad
  else .bad

def evL (st : ASt) : List Operand → Option (List AV)
 | [] => some []
 | x :: r => match st.ev x, evL st r with | some v, some l => some (v :: l) | _, _ => none
def refs : List AV → Option (List Nat)
 | [] => some []
 | .one (.ref id 0) :: l => (refs l).map (id :: ·)
 | _ => none
def compOf : Bool × List A1 → Option AV
 | (true, l) => some (.agg l)
 | (false, [a]) => some (.one a)
 | _ => none
def fieldOf (s : TypeId) (f : Nat) : Option (Nat × TypeId) :=
 match P.underlying s with
 | some (.struct fs) => (fs[f]?).map fun x => (x.offset, x.type)
 | _ => none
def sliceOf (t : TypeId) : Option TypeId := match P.underlying t with | some (.slice e) => some e | _ => none
def sizeT (t : TypeId) : Option Nat := (P.info? t).map (·.size)
def bytesT (t : TypeId) : Option Nat := (P.info? t).map (·.bytes)
def zeroT (t : TypeId) : Option Value := (P.info? t).bind (·.zero)
def repl {α : Type} (n : Int) (x : α) : List α := List.replicate n.toNat x

def zlen (e : TypeId) (n : Nat) : Bool := match zeroT P e with | some z => Nat.beq z.cells.size n | none => false
def eFit (e : TypeId) : Option TypeId → Bool
 | none => true
 | some x => decide (x = e)
def appendSR (Γ : Cfg) (base : Nat) (st : ASt) (st' : TypeId) (s x : A1) : SR :=
 match sliceOf P st' with
 | none => .bad
 | some e => match Γ.ty e, bytesT P e, sizeT P e with
  | some t, some bytes, some size => bif Nat.beq size t.wd && !Nat.beq size 0 && zlen P e size then
   listOf st.tb x fun t2 l2 => if h : t2 = t then
    (match own0 st.tb x with
     | (ow, dl) =>
      let dl := bif flat t then [] else dl
      let ow := flat t || ow
      (match s with
       | .sl id [] => (match lk st.tb id with
        | some (.row e' t1 l1 d) => if h1 : t1 = t then
          (bif eFit e e' && !mem? dl id && !mem? (rows1 x) id then
           .req ((l1.length + l2.length) * bytes ≤ 140737488355328 ∧ l1.length + l2.length ≤ 1000000000000)
            (.ret { val := .one (.sl base []), ins := [(base, .row e' t ((h1 ▸ l1 : List t.den) ++ (h ▸ l2 : List t.den)) (d && ow))], del := id :: dl }) else .bad)
         else .bad
        | _ => .bad)
       | .nil => .req (l2.length * bytes ≤ 140737488355328 ∧ l2.length ≤ 1000000000000)
         (.ret { val := .one (.sl base []), ins := [(base, .row (some e) t (h ▸ l2) ow)], del := dl })
       | _ => .bad))
   else .bad else .bad
  | _, _, _ => .bad

def isNil {α : Type} : List α → Bool | [] => true | _ => false
def copySR (st : ASt) (id lo : Nat) (n : Option Nat) (x : A1) : SR :=
 match lk st.tb id with
 | some (.row e ty l d) => bif flat ty && Nat.beq ty.wd 1 then listOf st.tb x fun ty2 l2 => if h : ty2 = ty then
   (match n with
    | none => .ret { val := .one (.c (ci (min l2.length l.length : Nat))), ins := [(id, .row e ty ((h ▸ l2 : List ty.den).take l.length ++ l.drop (min l2.length l.length)) d)] }
    | some n => .giv (lo + n ≤ l.length) (.ret { val := .one (.c (ci (min l2.length n : Nat))), ins := [(id, .row e ty (l.take lo ++ (h ▸ l2 : List ty.den).take n ++ l.drop (lo + min l2.length n)) d)] })) else .bad else .bad
 | _ => .bad
def bound1 (n : Nat) (a : Int) (f : Nat → SR) : SR := .req (0 ≤ a ∧ a ≤ n) (f a.toNat)
def bound2 (n : Nat) (a b : Int) (f : Nat → Nat → SR) : SR := .req (0 ≤ a ∧ a ≤ b ∧ b ≤ n) (f a.toNat b.toNat)
def boundS (n : Nat) (lo hi : Option A1) (f : Nat → Nat → SR) : SR :=
 match lo, hi with
 | none, none => f 0 n
 | some (.c ⟨.int _, a⟩), none => bound1 n a fun a => f a n
 | none, some (.c ⟨.int _, b⟩) => bound1 n b fun b => f 0 b
 | some (.c ⟨.int _, a⟩), some (.c ⟨.int _, b⟩) => bound2 n a b f
 | _, _ => .bad
def makeS (n m : Int) (bytes : Nat) (r : SR) : SR := .req (n = m ∧ 0 ≤ n ∧ n ≤ 1000000000000 ∧ bytes * n ≤ 140737488355328) r
def evO (st : ASt) : Option Operand → Option (Option A1)
 | none => some none
 | some x => (st.ev1 x).map some

def movA (n : Nat) : List Cell → List A1
 | [] => []
 | c :: cs => (match c with | ⟨.list _, _⟩ => A1.sl n [] | c => A1.c c) :: movA (n + 1) cs
def movB (n : Nat) : List Cell → Tb
 | [] => []
 | ⟨.list t, x⟩ :: cs => (n, .row none t x true) :: movB (n + 1) cs
 | _ :: cs => movB (n + 1) cs
def movS (base : Nat) (st : ASt) (t : TypeId) (id k off : Nat) (e : Option TypeId) (s : SN) (l : List (s.den × Bool)) : SR :=
 bif st.bel base && Nat.ble 20 id && !boxT [id] st.tb then opt (tinfo P t) fun (n, ag) =>
  .req (∃ y : s.den, l[k]? = some (y, true)) (.all s.den fun y => .giv (l[k]? = some (y, true)) (.giv (Ok (.st s) y) (opt (cut (s.cells y) off n) fun cs =>
   bif Nat.ble n 15 then opt (avOf ag (movA base cs)) fun v => .ret { val := v, ins := (id, .row e (.hol s) (l.set k (y, false)) true) :: movB base cs, kill := [id] } else .bad)))
 else .bad
def movLd (base : Nat) (st : ASt) (t : TypeId) (a : Operand) : Option SR :=
 match st.ev1 a with
 | some (.ptr id [] k off) => (match lk st.tb id with
  | some (.row e (.hol s) l true) => (match tinfo P t with
   | some (_, true) => some (movS P base st t id k off e s l)
   | _ => none)
  | _ => none)
 | _ => none
def loadSR (st : ASt) (t : TypeId) (a : Operand) : SR :=
 opt (tinfo P t) fun (n, ag) => opt (st.ev1 a) fun a => (match a with
  | .ref id off => (match lk st.tb id with
   | some (.box _ vs) => opt (cut vs off n) fun l => opt (avOf ag l) fun v => .ret { val := v }
   | _ => .bad)
  | .roe ty l k off => .all ty.den fun x => .giv (l[k]? = some x) (.giv (Ok ty x) (opt (cut (ty.cells x) off n) fun l => opt (avOf ag (l.map .c)) fun v => .ret { val := v }))
  | .ptr id p k off => (match lk st.tb id with
   | some (.row _ ty l deep) => pathSR ty l p fun ty l => ldEl ty l k fun cs => opt (cut cs off n) fun l => opt (avOf ag (asA1 id p k deep off l)) fun v => .ret { val := v }
   | _ => .bad)
  | _ => .bad)

def step (Γ : Cfg) (base : Nat) (o : Oper) (st : ASt) : SR :=
 match o.op with
 | .move x | .assign x => opt (st.ev x) fun v => .ret { val := v }
 | .pick c a b => opt (st.ev1 c) fun c => opt (st.ev a) fun a => opt (st.ev b) fun b => (match c with
  | .lit true => .ret { val := a }
  | .lit false => .ret { val := b }
  | .c ⟨.bool, x⟩ => .fork x (.ret { val := a }) (.ret { val := b })
  | _ => .bad)
 | .alloc e => bif st.fresh base then opt ((zeroT P e).bind zeros) fun z => .ret { val := .one (.ref base 0), ins := [(base, .box false z)] } else .bad
 | .box _ x => bif st.fresh base then opt ((st.ev x).bind AV.cells) fun vs => .ret { val := .one (.ref base 0), ins := [(base, .box false vs)] } else .bad
 | .build t parts => opt ((zeroT P t).bind zeros) fun z => (match P.underlying t with
  | some (.struct fs) => bif fs.toList.all fun f => (sizeT P f.type).isSome then opt (fillA (fun i => (fs[i]?).bind fun f => (sizeT P f.type).map fun n => (f.offset, n)) st z parts.toList) fun l => .ret { val := .agg l } else .bad
  | _ => .bad)
 | .buildSlice t n parts => bif st.fresh base then opt (sliceOf P t) fun e => opt (Γ.ty e) fun ty => opt ((zeroT P e).bind zeros) fun z => opt (sizeT P e) fun size => bif Nat.beq size ty.wd && Nat.ble (n * size) 16777216 && Nat.beq z.length size && !Nat.beq size 0 then
   opt (fillA (fun i => some (i * size, size)) st (rep z n) parts.toList) fun l => opt (groups size n l) fun gs => decR st.tb ty gs fun xs =>
    (match ownL st.tb l with
     | (ow, dl) => bif nodup? dl then .ret { val := .one (.sl base []), ins := [(base, .row (some e) ty xs ow)], del := dl } else .bad)
   else .bad else .bad
 | .load t a => (match movLd P base st t a with | some r => r | none => loadSR P st t a)
 | .store t a v => opt (tinfo P t) fun (n, _) => opt (st.ev1 a) fun a => opt ((st.ev v).bind AV.cells) fun vs => bif Nat.beq vs.length n then (match a with
  | .ref id off => (match lk st.tb id with
   | some (.box b ws) => bif !b || (vs.all num1 && (match cut ws off n with | some old => old.all num1 | none => false)) then
     opt (ovr ws off vs) fun l => .ret { val := .one (.val undef), ins := [(id, .box b l)] } else .bad
   | _ => .bad)
  | .ptr id [] k off => (match lk st.tb id with
   | some (.row e ty l deep) =>
    (match ownL st.tb vs with
     | (ow, dl) =>
      bif vs.all num1 || (nodup? dl && !boxT [id] st.tb && !mem? dl id && (Nat.ble 20 id || isNil dl)) then
      opt (cut ty.sig off n) fun sg => decL st.tb sg vs fun cs => elemSR k off cs ty l fun l' =>
       .ret { val := .one (.val undef), ins := [(id, .row e ty l' (deep && ow))], del := dl, kill := (bif vs.all num1 then [] else [id]) } else .bad)
   | _ => .bad)
  | .ptr id (q :: p) k off => (match lk st.tb id with
   | some (.row e ty l true) => bif vs.all num1 then
     updSR ty l (q :: p) (fun ty' l' f => opt (cut ty'.sig off n) fun sg => decL st.tb sg vs fun cs => elemSR k off cs ty' l' f) fun l'' => .ret { val := .one (.val undef), ins := [(id, .row e ty l'' true)] }
    else .bad
   | _ => .bad)
  | _ => .bad) else .bad
 | .nilCheck x => opt (st.ev1 x) fun a => (match a with
  | .ref id off => (match lk st.tb id with | some (.box _ _) => v1 (.ref id off) | _ => .bad)
  | _ => .bad)
 | .binOp op t x y _ => opt (st.ev x) fun x => opt (st.ev y) fun y => binA P Γ.wr st.tb op t x y
 | .unOp op _ x => opt (st.ev1 x) fun a => (match op, a with
  | .not, .lit b => v1 (.lit (!b))
  | .not, .c ⟨.bool, b⟩ => vc .bool (!b)
  | .neg, .c ⟨.int k, n⟩ => negS k n
  | _, _ => .bad)
 | .convert src dst x => opt (st.ev1 x) fun a => (match P.underlying src, P.underlying dst, a with
  | some (.int _), some (.int k'), .c ⟨.int k, n⟩ => convK k' k n
  | some (.slice e), some .string, a => (match P.underlying e with
   | some (.int .u8) => listOf st.tb a fun ty l => (match ty, l with
    | .int .u8, l => .req (l.length ≤ 1000000000000) (vc .str (strOf l))
    | _, _ => .bad)
   | _ => .bad)
  | _, _, _ => .bad)
 | .makeFunc (.func f) first captured => bif Nat.beq first.size 0 then opt ((evL st captured.toList).bind refs) fun ids => v1 (.fn f ids) else .bad
 | .makeSlice t n c => bif st.fresh base then opt (sliceOf P t) fun e => opt (Γ.ty e) fun ty => opt ((zeroT P e).bind zeros) fun z => opt (sizeT P e) fun size => opt (bytesT P e) fun bytes => opt (st.ev1 n) fun n => opt (st.ev1 c) fun c =>
   bif Nat.beq size ty.wd && Nat.beq z.length size && !Nat.beq size 0 then (match n, c with
   | .c ⟨.int .i64, n⟩, .c ⟨.int .i64, m⟩ => makeS n m bytes (decT st.tb ty z fun x =>
     .ret { val := .one (.sl base []), ins := [(base, .row (some e) ty (repl n x) true)] })
   | _, _ => .bad) else .bad else .bad
 | .slice t x lo hi none => opt (st.ev1 x) fun x => opt (evO st lo) fun lo => opt (evO st hi) fun hi => (match P.underlying t, x with
  | some .string, .c ⟨.str, s⟩ => boundS s.size lo hi fun a b => vc .str (s.extract a b)
  | some (.slice e), .c ⟨.list ty, l⟩ => bif decide (sizeT P e = some ty.wd) then boundS l.length lo hi fun a b => vc (.list ty) ((l.drop a).take (b - a)) else .bad
  | some (.slice e), .sl id [] => (match lk st.tb id with
   | some (.row _ ty l _) => bif decide (sizeT P e = some ty.wd) then boundS l.length lo hi fun a b => v1 (.sub id a (b - a)) else .bad
   | _ => .bad)
  | _, _ => .bad)
 | .fieldAddr s x f => opt (fieldOf P s f) fun (off, ft) => opt (sizeT P ft) fun n => bif Nat.beq n 0 then .bad else opt (st.ev1 x) fun a => (match a with
  | .ref id o => (match lk st.tb id with | some (.box _ _) => v1 (.ref id (o + off)) | _ => .bad)
  | .roe ty l k o => v1 (.roe ty l k (o + off))
  | .ptr id p k o => (match lk st.tb id with | some (.row _ _ _ _) => v1 (.ptr id p k (o + off)) | _ => .bad)
  | _ => .bad)
 | .field s x f => opt (fieldOf P s f) fun (off, ft) => opt (tinfo P ft) fun (n, ag) => (match st.ev x with
  | some (.agg l) => opt (cut l off n) fun l => opt (avOf ag l) fun v => .ret { val := v }
  | _ => .bad)
 | .indexAddr t x i => opt (sliceOf P t) fun e => opt (sizeT P e) fun size => opt (st.ev1 x) fun a => opt (st.ev1 i) fun i => (match i with
  | .c ⟨.int _, i⟩ => (match a with
   | .c ⟨.list ty, l⟩ => bif Nat.beq size ty.wd then idxS i l.length (v1 (.roe ty l i.toNat 0)) else .bad
   | .sl id p => (match lk st.tb id with
    | some (.row _ ty l _) => pathSR ty l p fun ty l => bif Nat.beq size ty.wd then idxS i l.length (v1 (.ptr id p i.toNat 0)) else .bad
    | _ => .bad)
   | _ => .bad)
  | _ => .bad)
 | .index t x i => opt (st.ev1 x) fun a => opt (st.ev1 i) fun i => (match P.underlying t, a, i with
  | some .string, .c ⟨.str, s⟩, .c ⟨.int _, i⟩ => idxS i s.size (.giv (0 ≤ strAt s i.toNat ∧ strAt s i.toNat ≤ 255) (vc .u (strAt s i.toNat)))
  | _, _, _ => .bad)
 | .extract t i => (match st.ev t with
  | some (.tup l) => opt ((nth l i).bind compOf) fun v => .ret { val := v }
  | _ => .bad)
 | .call c => opt (evL st c.args.toList) fun args => (match c.callee with
  | .builtin .len => (match c.argTypes.toList, args with
   | [t], [.one a] => (match P.underlying t, a with
    | some .string, .c ⟨.str, s⟩ => lenS s.size
    | some (.slice _), .nil => lenS 0
    | some (.slice _), a => listOf st.tb a fun _ l => lenS l.length
    | _, _ => .bad)
   | _, _ => .bad)
  | .builtin .append => (match c.argTypes.toList, args with
   | [t, t'], [.one s, .one x] => bif Nat.beq t t' && st.fresh base then appendSR P Γ base st t s x else .bad
   | _, _ => .bad)
  | .builtin .copy => (match c.argTypes.toList, args with
   | [t, t'], [.one a, .one x] => bif Nat.beq t t' && decide ((sliceOf P t).bind (sizeT P) = some 1) then (match a with
    | .sl id [] => copySR st id 0 none x
    | .sub id lo n => copySR st id lo (some n) x
    | _ => .bad) else .bad
   | _, _ => .bad)
  | .builtin .max => (match args with
   | [.one (.c ⟨.int .i64, a⟩), .one (.c ⟨.int .i64, b⟩)] => vc .i (max a b)
   | _ => .bad)
  | .builtin .min => (match args with
   | [.one (.c ⟨.int .i64, a⟩), .one (.c ⟨.int .i64, b⟩)] => vc .i (min a b)
   | _ => .bad)
  | .value (.func f) => callSR Γ base st f args
  | .value x => (match st.ev1 x with
   | some (.fn f caps) => callSR Γ base st f (args ++ caps.map fun i => AV.one (.ref i 0))
   | _ => .bad)
  | _ => .bad)
 | _ => .bad
end steps
end Go.Proofs.YtpgglbnagphgoaaGreat
/- The small logic: regions, loops, bodies, contracts. No program is in sight. -/
namespace Go.Proofs.YtpgglbnagphgoaaGreat
open Go.RowKit
open SR (opt)

inductive Ann where
 | all (α : Type) (f : α → Ann)
 | giv (p : Prop) (r : Ann)
 | mk (fr : Fr) (tb : Tb) (d : Nat)

abbrev Ren := List (Nat × Option Nat)
def bindR (r : Ren) (i : Nat) (v : Option Nat) : Option Ren :=
 match lk r i with
 | some v' => bif (match v, v' with | some a, some b => Nat.beq a b | none, none => true | _, _ => false) then some r else none
 | none => some ((i, v) :: r)
def bindL : Ren → List Nat → List Nat → Option Ren
 | r, [], [] => some r
 | r, i :: l, j :: m => (bindR r i (some j)).bind fun r => bindL r l m
 | _, _, _ => none
def uni1 (r : Ren) (a b : A1) : Option Ren :=
 match a, b with
 | .sl i _, .sl j _ => bindR r i (some j)
 | .sl i [], .nil => bindR r i none
 | .ref i _, .ref j _ => bindR r i (some j)
 | .ptr i _ _ _, .ptr j _ _ _ => bindR r i (some j)
 | .sub i _ _, .sub j _ _ => bindR r i (some j)
 | .fn _ l, .fn _ m => bindL r l m
 | _, _ => some r
def uniL (r : Ren) : List A1 → List A1 → Option Ren
 | [], [] => some r
 | a :: l, b :: m => (uni1 r a b).bind fun r => uniL r l m
 | _, _ => none
def uniT (r : Ren) : List (Bool × List A1) → List (Bool × List A1) → Option Ren
 | [], [] => some r
 | a :: l, b :: m => (uniL r a.2 b.2).bind fun r => uniT r l m
 | _, _ => none
def uniV (r : Ren) : AV → AV → Option Ren
 | .one a, .one b => uni1 r a b
 | .agg l, .agg m => uniL r l m
 | .tup l, .tup m => uniT r l m
 | _, _ => none
def uniF (st : Fr) (r : Ren) : Fr → Option Ren
 | [] => some r
 | (i, v) :: l => match lk st i with
  | some u => (uniV r v u).bind fun r => uniF st r l
  | none => none
def uniB (tb : Tb) (want : Tb) (r : Ren) : Ren → Option Ren
 | [] => some r
 | (i, some j) :: l => (match lk want i, lk tb j with
  | some (.box _ vs), some (.box _ us) => (uniL r vs us).bind fun r => uniB tb want r l
  | _, _ => uniB tb want r l)
 | (_, none) :: l => uniB tb want r l
def small : Tb → Ren
 | [] => []
 | (i, _) :: r => bif Nat.blt i 20 then (i, some i) :: small r else small r
def renOf (st : ASt) (fr : Fr) (tb : Tb) : Option Ren :=
 (uniF st.fr (small tb) fr).bind fun r => (uniB st.tb tb r r).bind fun r => (uniB st.tb tb r r).bind fun r => uniB st.tb tb r r
def ran (r : Ren) (j : Nat) : Bool := r.any fun p => match p.2 with | some k => Nat.beq k j | none => false
def okRen : Ren → Bool
 | [] => true
 | (i, some j) :: r => !ran r j && (Nat.beq i j || (!Nat.blt i 20 && !Nat.blt j 20)) && okRen r
 | (i, none) :: r => !Nat.blt i 20 && okRen r
def eqP : List (Nat × Nat) → List (Nat × Nat) → Prop → Prop
 | [], [], K => K
 | a :: l, b :: m, K => bif Nat.beq a.2 b.2 then a.1 = b.1 ∧ eqP l m K else False
 | _, _, _ => False
def elP : (t : Ty) → List t.den → Nat → (List Cell → Prop) → Prop
 | .hol _, _, _, _ => False
 | t, l, k, f => ∀ x, l[k]? = some x → f (t.cells x)
def pathP : (t : Ty) → List t.den → List (Nat × Nat) → ((t : Ty) → List t.den → Prop) → Prop
 | t, l, [], f => f t l
 | t, l, (k, off) :: p, f => elP t l k fun cs => (match nth cs off with
  | some ⟨.list t', l'⟩ => pathP t' l' p f
  | _ => False)
def eqC' (a b : Cell) (K : Prop) : Prop := if h : a.t = b.t then (h ▸ a.x) = b.x ∧ K else False
def hasR (r : Ren) (i j : Nat) : Bool := match lk r i with | some (some k) => Nat.beq k j | _ => false
def isN (r : Ren) (i : Nat) : Bool := match lk r i with | some none => true | _ => false
def hasL (r : Ren) : List Nat → List Nat → Bool
 | [], [] => true
 | i :: l, j :: m => hasR r i j && hasL r l m
 | _, _ => false
def le1 (r : Ren) (tb : Tb) (a b : A1) (K : Prop) : Prop :=
 match a, b with
 | .c x, .c y => eqC' y x K
 | .c ⟨.bool, x⟩, .lit b => b = x ∧ K
 | .c ⟨.list _, l⟩, .nil => [] = l ∧ K
 | .c ⟨.list t, l⟩, .sl j p => bif ran r j then False else (match lk tb j with
  | some (.row _ t1 l1 _) => pathP t1 l1 p fun t' l' => if h : t' = t then (h ▸ l') = l ∧ K else False
  | _ => False)
 | .c ⟨.list t, l⟩, .sub j lo n => bif ran r j then False else (match lk tb j with
  | some (.row _ t1 l1 _) => if h : t1 = t then (h ▸ ((l1.drop lo).take n)) = l ∧ K else False
  | _ => False)
 | .lit x, .lit y => y = x ∧ K
 | .lit x, .c ⟨.bool, y⟩ => y = x ∧ K
 | .nil, .nil => K
 | .val x, .val y => y = x ∧ K
 | .ref i o, .ref j o' => bif Nat.beq o o' && hasR r i j then K else False
 | .ptr i p k o, .ptr j p' k' o' => bif Nat.beq o o' && hasR r i j then eqP p' p (k' = k ∧ K) else False
 | .sl i p, .sl j p' => bif hasR r i j then eqP p' p K else False
 | .sl i [], .nil => bif isN r i then K else False
 | .sub i lo n, .sub j lo' n' => bif hasR r i j then lo' = lo ∧ n' = n ∧ K else False
 | .fn f l, .fn g m => bif Nat.beq f g && hasL r l m then K else False
 | _, _ => False
def leL (r : Ren) (tb : Tb) : List A1 → List A1 → Prop → Prop
 | [], [], K => K
 | a :: l, b :: m, K => le1 r tb a b (leL r tb l m K)
 | _, _, _ => False
def leT (r : Ren) (tb : Tb) : List (Bool × List A1) → List (Bool × List A1) → Prop → Prop
 | [], [], K => K
 | a :: l, b :: m, K => bif a.1 == b.1 then leL r tb a.2 b.2 (leT r tb l m K) else False
 | _, _, _ => False
def leV (r : Ren) (tb : Tb) (a b : AV) (K : Prop) : Prop :=
 match a, b with
 | .one a, .one b => le1 r tb a b K
 | .agg l, .agg m => leL r tb l m K
 | .tup l, .tup m => leT r tb l m K
 | _, _ => False
def leF (r : Ren) (st : ASt) : Fr → Prop → Prop
 | [], K => K
 | (i, v) :: l, K => match lk st.fr i with
  | some u => leV r st.tb v u (leF r st l K)
  | none => False
def eOk (e e' : Option TypeId) : Bool := match e with | none => true | some _ => decide (e = e')
def leB (r : Ren) (tb : Tb) : Tb → Prop → Prop
 | [], K => K
 | (i, b) :: l, K => match lk r i with
  | some (some j) => (match b, lk tb j with
   | .box f vs, some (.box g us) => bif f == g then leL r tb vs us (leB r tb l K) else False
   | .row e t x d, some (.row e' t' x' d') => bif eOk e e' && (!d || d') then (if h : t' = t then (h ▸ x') = x ∧ leB r tb l K else False) else False
   | _, _ => False)
  | some none => (match b with
   | .row _ _ x _ => [] = x ∧ leB r tb l K
   | _ => False)
  | none => False
def le (st : ASt) (fr : Fr) (tb : Tb) (K : Prop) : Prop :=
 match renOf st fr tb with
 | some r => bif okRen r then leF r st fr (leB r st.tb tb K) else False
 | none => False
def cvt1 (T : Tb) (j : Nat) (e' : Option TypeId) (d' : Bool) : (t : Ty) → List t.den → (t' : Ty) → List t'.den → (Tb → Prop) → Prop
 | .hol s, _, .st s', x', f => if h : s' = s then f ((j, .row e' (.hol s) ((h ▸ x' : List s.den).map fun y => (y, true)) d') :: erl [j] T) else f T
 | .st s, x, .hol s', x', f => if h : s' = s then x.map (fun y => (y, true)) = (h ▸ x' : List (s.den × Bool)) ∧ f ((j, .row e' (.st s) x d') :: erl [j] T) else f T
 | _, _, _, _, f => f T
def cvtP (r : Ren) : Tb → Tb → (Tb → Prop) → Prop
 | [], T, f => f T
 | (i, b) :: l, T, f => (match b, lk r i with
  | .row _ t x _, some (some j) => (match lk T j with
   | some (.row e' t' x' d') => cvt1 T j e' d' t x t' x' fun T => cvtP r l T f
   | _ => cvtP r l T f)
  | _, _ => cvtP r l T f)
def leC (st : ASt) (fr : Fr) (tb : Tb) (K : Prop) : Prop :=
 match renOf st fr tb with
 | some r => cvtP r tb st.tb fun T => le ⟨st.fr, T, st.nx⟩ fr tb K
 | none => False
namespace Ann
def ex (st : ASt) : Ann → (Nat → Prop) → Prop
 | all _ f, K => ∃ x, (f x).ex st K
 | giv p r, K => r.ex st fun d => p ∧ K d
 | mk fr tb d, K => leC st fr tb (K d)
def al (K : ASt → Nat → Prop) : Ann → Prop
 | all _ f => ∀ x, (f x).al K
 | giv p r => p → r.al K
 | mk fr tb d => K ⟨fr, tb, 100⟩ d
end Ann

inductive AEx where
 | normal
 | exit (id : Nat)
 | ret

def isG (ops : List Oper) (i : Nat) : Bool := ops.any fun o => match o.guard with | some (j, _) => Nat.beq j i | none => false
def fk (b : Bool) (r : SR) : SR := bif b then r.onE fun e => (match e.val with
 | .one (.c ⟨.bool, x⟩) => .fork x (.ret { e with val := .one (.lit true) }) (.ret { e with val := .one (.lit false) })
 | _ => .ret e) else r
def ids1 : A1 → List Nat
 | .ref i _ => [i]
 | .ptr i _ _ _ => [i]
 | .sl i _ => [i]
 | .sub i _ _ => [i]
 | .fn _ caps => caps
 | _ => []
def idsL : List A1 → List Nat
 | [] => []
 | a :: l => ids1 a ++ idsL l
def idsT : List (Bool × List A1) → List Nat
 | [] => []
 | a :: l => idsL a.2 ++ idsT l
def idsA : AV → List Nat
 | .one a => ids1 a
 | .agg l => idsL l
 | .tup l => idsT l
def thr1 : A1 → List Nat
 | .sl i (_ :: _) => [i]
 | .ptr i (_ :: _) _ _ => [i]
 | _ => []
def thrL : List A1 → List Nat
 | [] => []
 | a :: l => thr1 a ++ thrL l
def thrT : List (Bool × List A1) → List Nat
 | [] => []
 | a :: l => thrL a.2 ++ thrT l
def thrA : AV → List Nat
 | .one a => thr1 a
 | .agg l => thrL l
 | .tup l => thrT l
def idsB : Blk → List Nat
 | .box _ l => idsL l
 | _ => []
def idsTb : Tb → List Nat
 | [] => []
 | (_, b) :: l => idsB b ++ idsTb l
def idsF : Fr → List Nat
 | [] => []
 | (_, v) :: l => idsA v ++ idsF l
def keysOf : Tb → List Nat
 | [] => []
 | (i, _) :: l => i :: keysOf l
def opIds (st : ASt) : List Operand → List Nat
 | [] => []
 | x :: l => (match st.ev x with | some v => idsA v | none => []) ++ opIds st l
def opThr (st : ASt) : List Operand → List Nat
 | [] => []
 | x :: l => (match st.ev x with | some v => thrA v | none => []) ++ opThr st l
def idsOf (tb : Tb) : List Nat → List Nat
 | [] => []
 | i :: l => (match lk tb i with | some b => idsB b | none => []) ++ idsOf tb l
def slotsOf : List Operand → List Nat
 | [] => []
 | .tmp t :: l => t :: slotsOf l
 | _ :: l => slotsOf l
def looksOf (ops : List Oper) (o : Oper) : List Operand :=
 o.op.operands.toList ++ (match o.guard with
  | some (j, _) => (match (nth ops j).bind (·.dst) with | some d => [.tmp d] | none => [])
  | none => [])
structure Ft where
 s : List Nat
 d : Option Nat
 m : List Nat
 v : List Nat
 w : List Nat
 k : List Nat
 h : List Nat
def lookO : Op → Bool
 | .move _ | .assign _ | .pick .. | .build .. | .extract .. | .field .. | .unOp .. | .index .. | .alloc _ | .box .. | .makeFunc .. => false
 | _ => true
def depO : Op → Nat
 | .call _ => 2
 | _ => 0
def deepIds (n : Nat) (tb : Tb) (a : List Nat) : List Nat :=
 match n with
 | 0 => a
 | _ => a ++ (idsOf tb a ++ idsOf tb (idsOf tb a))
def disj? (l m : List Nat) : Bool := l.all fun i => !mem? m i
def optNe : Option Nat → Option Nat → Bool
 | some a, some b => !Nat.beq a b
 | _, _ => true
def optOut (d : Option Nat) (l : List Nat) : Bool := match d with | some d => !mem? l d | none => true
def indep (f g : Ft) : Bool := disj? f.w g.m && disj? f.w g.w && disj? g.w f.m && disj? f.k g.h && disj? g.k f.h && optOut f.d g.s && optOut g.d f.s && optNe f.d g.d
def indL (b : List Nat) (f : Ft) : List (Nat × Ft) → Bool
 | [] => true
 | (j, g) :: l => (mem? b j || indep f g) && indL b f l
def aft? (i : Nat) : List (List Nat) → Nat → Bool
 | [], _ => true
 | b :: l, k => (!Nat.blt i k || mem? b i) && aft? i l (k + 1)
def okId (nx n : Nat) (b : List Nat) (i id : Nat) : Bool := Nat.blt id nx || Nat.ble (nx + 16 * n) id || Nat.beq ((id - nx) / 16) i || mem? b ((id - nx) / 16)
def thruA : A1 → Bool
 | .sl _ (_ :: _) => true
 | .ptr _ (_ :: _) _ _ => true
 | _ => false
def noT : Tb → Bool
 | [] => true
 | (_, .box _ l) :: r => l.all (fun a => !thruA a) && noT r
 | _ :: r => noT r
def tKeys : Tb → List Nat
 | [] => []
 | (i, .box _ l) :: r => bif l.all (fun a => !thruA a) then tKeys r else i :: tKeys r
 | _ :: r => tKeys r
def clear (st : ASt) (nx n : Nat) : Bool := (idsF st.fr).all (fun id => Nat.blt id nx || Nat.ble (nx + 16 * n) id) && (idsTb st.tb).all (fun id => Nat.blt id nx || Nat.ble (nx + 16 * n) id) && (keysOf st.tb).all (fun id => Nat.blt id nx || Nat.ble (nx + 16 * n) id)
def nub : List Nat → List Nat
 | [] => []
 | i :: l => bif mem? l i then nub l else i :: nub l
def befL : List Oper → List (List Nat) → List (List Nat)
 | [], acc => acc
 | o :: l, acc => befL l (acc ++ [nub (o.after.toList.flatMap fun e => bif Region.binds .any e then e.on :: (nth acc e.on).getD [] else [])])
def befOk : List Oper → Nat → Bool
 | [], _ => true
 | o :: l, i => o.after.toList.all (fun e => !Region.binds .any e || Nat.blt e.on i) && (match o.guard with | some (j, _) => o.after.toList.any (fun e => Region.binds .any e && Nat.beq e.on j) | none => true) && befOk l (i + 1)
def beqB : Bool → Bool → Bool
 | true, b => b
 | false, b => !b
def focSR : (t : Ty) → List t.den → List (Nat × Nat) → ((t1 : Ty) → List t1.den → (List t1.den → (List t.den → SR) → SR) → SR) → SR
 | t, l, [], k => k t l fun m f => f m
 | t, l, (i, off) :: p, k => elSR t l i fun cs0 => (match nth cs0 off with
  | some ⟨.list t', l'⟩ => focSR t' l' p fun t1 l1 put => k t1 l1 fun m f => put m fun l'' => opt (ovr cs0 off [⟨.list t', l''⟩]) fun cs => opt (t.mk cs) fun x' => f (l.set i x')
  | _ => .bad)
def innerA : List PT → List AV → Nat → Option (Nat × Nat × List (Nat × Nat))
 | .row _ _ :: ps, .one (.sl id (q :: p)) :: vs, n => some (n, id, q :: p)
 | _ :: ps, _ :: vs, n => innerA ps vs (n + 1)
 | _, _, _ => none
def isLent : Blk → Bool
 | .box true _ => true
 | _ => false
def focE (st : ASt) (id : Nat) (ex : Option TypeId) (t t1 : Ty) (put : List t1.den → (List t.den → SR) → SR) (e : Eff) : SR :=
 match lk e.ins 19 with
 | some (.row _ t2 l2 true) => if h : t2 = t1 then
   (bif !e.val.men id && !e.val.men 19 && !menB id e.ins && !menB 19 (erl [19] e.ins) && e.ins.all (fun q => !isLent q.2 && (Nat.ble 20 q.1 || Nat.beq q.1 19 || (lk st.tb q.1).isSome)) then
    put (h ▸ l2 : List t1.den) fun l' => .ret { val := e.val, ins := (id, .row ex t l' true) :: erl [19] e.ins, del := 19 :: e.del, kill := id :: e.kill }
   else .bad) else .bad
 | _ => .bad
section
variable (P : Program) (Γ : Cfg)
def gstep (ops : List Oper) (i base : Nat) (o : Oper) (st : ASt) : SR :=
 match o.guard with
 | none => fk (isG ops i) (step P Γ base o st)
 | some (j, w) => match ((nth ops j).bind (·.dst)).bind (lk st.fr) with
  | some (.one (.lit b)) => bif beqB b w then fk (isG ops i) (step P Γ base o st) else .ret { val := .one (.val undef) }
  | some (.one (.val v)) => (match v with | .tuple _ => .ret { val := .one (.val undef) } | _ => .bad)
  | _ => .bad
def focS (base : Nat) (st : ASt) (f : FuncId) (args : List AV) (n id : Nat) (p : List (Nat × Nat)) : SR :=
 match lk st.tb id with
 | some (.row ex t l true) => bif !menB 19 st.tb && !menF 19 st.fr && !menB id (erl [id] st.tb) then
   focSR t l p fun t1 l1 put => (callSR Γ base ⟨st.fr, (19, .row none t1 l1 true) :: erl [id] st.tb, st.nx⟩ f (args.set n (.one (.sl 19 [])))).onE fun e => focE st id ex t t1 put e
  else .bad
 | _ => .bad
def focOp (base : Nat) (o : Oper) (st : ASt) : Option SR :=
 match o.op, o.guard with
 | .call c, none => (match c.callee with
  | .value (.func f) => (match evL st c.args.toList, Γ.con f with
   | some args, some C => (match innerA C.ps args 0 with
    | some (n, id, p) => some (focS Γ base st f args n id p)
    | none => none)
   | _, _ => none)
  | _ => none)
 | _, _ => none
def fstep (ops : List Oper) (i base : Nat) (o : Oper) (st : ASt) : SR :=
 match focOp Γ base o st with
 | some r => r
 | none => gstep P Γ ops i base o st
def runL (ops : List Oper) : List Oper → Nat → ASt → (ASt → Prop) → Prop
 | [], i, st, K => K { st with nx := st.nx + 16 * i }
 | o :: l, i, st, K => (fstep P Γ ops i (st.nx + 16 * i) o st).cps fun e => runL ops l (i + 1) (e.app st o.dst) K
def detC (Γ : Cfg) (f : FuncId) : Bool := match Γ.con f with | some C => C.det | none => true
def detO (o : Oper) (st : ASt) : Bool :=
 match o.op with
 | .binOp _ _ x y _ => (match st.ev x, st.ev y with
  | some (.one (.c ⟨.list _, _⟩)), some (.one .nil) => false
  | some (.one (.sl _ _)), some (.one .nil) => false
  | _, _ => true)
 | .call c => (match c.callee with
  | .value (.func f) => detC Γ f
  | .value x => (match st.ev1 x with | some (.fn f _) => detC Γ f | _ => true)
  | _ => true)
 | _ => true
def ftOf (ops : List Oper) (o : Oper) (st : ASt) (e : Eff) : Ft :=
 let l := looksOf ops o
 let a := opIds st l
 { s := slotsOf l, d := o.dst, m := bif lookO o.op then deepIds (depO o.op) st.tb a else [], v := a ++ (idsA e.val ++ idsTb e.ins), w := keysOf e.ins ++ (e.del ++ e.kill), k := e.kill, h := opThr st l ++ thrA e.val }
def chkD (ops : List Oper) (nx n : Nat) (bf : List (List Nat)) (i : Nat) (o : Oper) (st : ASt) (e : Eff) (log : List (Nat × Ft)) : Bool :=
 let f := ftOf ops o st e
 let b := (nth bf i).getD []
 f.v.all (okId nx n b i) && f.w.all (okId nx n b i) && f.s.all (fun t => (lk st.fr t).isSome) && (noT e.ins && disj? (tKeys st.tb) e.del) && (detO Γ o st || aft? i bf 0) && indL b f log
def runD (ops : List Oper) (nx : Nat) (bf : List (List Nat)) : List Oper → Nat → ASt → List (Nat × Ft) → (ASt → Prop) → Prop
 | [], i, st, _, K => K { st with nx := nx + 16 * i }
 | o :: l, i, st, log, K => (gstep P Γ ops i (nx + 16 * i) o st).cps fun e => bif chkD Γ ops nx ops.length bf i o st e log then runD ops nx bf l (i + 1) (e.app st o.dst) ((i, ftOf ops o st e) :: log) K else False
def runR (ops : List Oper) (st : ASt) (K : ASt → Prop) : Prop :=
 bif Nat.ble 20 st.nx && befOk ops 0 && clear st st.nx ops.length then runD P Γ ops st.nx (befL ops []) ops 0 st [] K else False
def keyC : Code → Nat
 | .region id _ _ => id
 | .seq a _ => keyC a
 | .block _ a => keyC a
 | .loop a => keyC a
 | .scope a => keyC a
 | _ => 100000
def awp (an : Nat → Option Ann) : Code → ASt → (AEx → ASt → Prop) → Prop
 | .skip, st, Q => Q .normal st
 | .region _ ops draw, st, Q => bif draw then runR P Γ ops.toList st (Q .normal) else runL P Γ ops.toList ops.toList 0 st (Q .normal)
 | .seq a b, st, Q => (match an (1000 + keyC b) with
  | none => awp an a st fun e st => (match e with | .normal => awp an b st Q | e => Q e st)
  | some A => awp an a st fun e st => (match e with | .normal => A.ex st fun d => A.al fun st d' => d' = d → awp an b st Q | e => Q e st))
 | .cond c x y, st, Q => (match st.ev1 c with
  | some (.lit true) => awp an x st Q
  | some (.lit false) => awp an y st Q
  | some (.c ⟨.bool, b⟩) => (b = true → awp an x st Q) ∧ (b = false → awp an y st Q)
  | _ => False)
 | .block id b, st, Q => awp an b st fun e st => (match e with
  | .exit j => bif Nat.beq j id then Q .normal st else Q (.exit j) st
  | e => Q e st)
 | .loop b, st, Q => (match an (keyC b) with
  | some A => A.ex st (fun _ => True) ∧ A.al fun st d => awp an b st fun e st => (match e with
   | .normal => A.ex st (· < d)
   | e => Q e st)
  | none => (match an (2000 + keyC b) with
   | some A => A.ex st fun d0 => A.al fun st d => d ≤ d0 → awp an b st fun e st => (match e with
    | .normal => A.ex st (· < d)
    | e => Q e st)
   | none => False))
 | .exit id, st, Q => Q (.exit id) st
 | .ret, st, Q => Q .ret st
 | _, _, _ => False

def resC (st : ASt) : ResultVar → Option (Bool × List A1)
 | .tmp t => (match lk st.fr t with
  | some (.one a) => some (false, [a])
  | some (.agg l) => some (true, l)
  | _ => none)
 | .cell a t => (match lk st.fr a, tinfo P t with
  | some (.one (.ref id off)), some (n, ag) => (match lk st.tb id with
   | some (.box _ vs) => (cut vs off n).bind fun l => bif ag then some (true, l) else (match l with | [a] => some (false, [a]) | _ => none)
   | _ => none)
  | _, _ => none)
def resL (st : ASt) : List ResultVar → Option (List (Bool × List A1))
 | [] => some []
 | r :: l => match resC P st r, resL st l with | some x, some m => some (x :: m) | _, _ => none
def resV (st : ASt) (l : List ResultVar) : Option AV :=
 match resL P st l with
 | some [x] => compOf x
 | some m => some (.tup m)
 | none => none
def leave (res : List ResultVar) (tb : Tb) (r : SR) (e : AEx) (st : ASt) : Prop :=
 match e with
 | .exit _ => False
 | _ => match resV P st res with
  | some v => r.hit fun e => (match wrL tb e.wr with
   | some tb => le { fr := [(0, v)], tb := st.tb, nx := st.nx } [(0, e.val)] (insL tb e.ins) True
   | none => False)
  | none => False
def slots (i : Nat) : List AV → Fr
 | [] => []
 | v :: l => (i, v) :: slots (i + 1) l
def entry (C : Con) (x : PTL C.ps) : ASt := { fr := slots 0 (encPTL 0 C.ps x).1, tb := (encPTL 0 C.ps x).2.1, nx := 100 }
def keeps (an : Nat → Option Ann) (body : Code) (res : List ResultVar) (C : Con) (x : PTL C.ps) : Prop :=
 awp P Γ an body (entry C x) (leave P res (entry C x).tb (C.out x))
end
end Go.Proofs.YtpgglbnagphgoaaGreat
/- What abstract states mean in the model's worlds. No program is in sight. -/
namespace Go.Proofs.YtpgglbnagphgoaaGreat
open Go.RowKit

inductive RepC (w : World) (F : Nat → Prop) : Value → Cell → Prop
 | int {k : IntKind} {n : Int} (h : okI k n) : RepC w F (.int k n) ⟨.int k, n⟩
 | bool {b : Bool} : RepC w F (.bool b) ⟨.bool, b⟩
 | str {s : ByteArray} (h : s.size ≤ 9223372036854775807) : RepC w F (.string s) ⟨.str, s⟩
 | junk {v : Value} (h : v.oneCell' = true) : RepC w F v ⟨.junk, ()⟩
 | list {t : Ty} {l : List t.den} {A : Option Addr} {c : Nat} (g : Nat → Nat → Value) (hc : l.length ≤ c) (hm : c ≤ 9223372036854775807)
   (hA : l ≠ [] → ∃ b off, A = some ⟨b, off, none⟩ ∧ F b ∧ b < w.heap.size ∧ ∀ i x j u, l[i]? = some x → (t.cells x)[j]? = some u → w.cell? ⟨b, off + (i * t.wd + j), none⟩ = some (g i j))
   (hr : ∀ i x j u, l[i]? = some x → (t.cells x)[j]? = some u → RepC w F (g i j) u) : RepC w F (.slice A l.length c) ⟨.list t, l⟩

inductive OwnC (w : World) : (Nat → Prop) → Value → Cell → Prop
 | int {B : Nat → Prop} {k : IntKind} {n : Int} (h : okI k n) : OwnC w B (.int k n) ⟨.int k, n⟩
 | bool {B : Nat → Prop} {b : Bool} : OwnC w B (.bool b) ⟨.bool, b⟩
 | str {B : Nat → Prop} {s : ByteArray} (h : s.size ≤ 9223372036854775807) : OwnC w B (.string s) ⟨.str, s⟩
 | junk {B : Nat → Prop} {v : Value} (h : v.oneCell' = true) : OwnC w B v ⟨.junk, ()⟩
 | nil {B : Nat → Prop} {t : Ty} : OwnC w B (.slice none 0 0) ⟨.list t, []⟩
 | list {B : Nat → Prop} {t : Ty} {l : List t.den} {b c : Nat} {e : TypeId} {cur : Array Value} (g : Nat → Nat → Value) (S : Nat → Nat → Nat → Prop)
   (hB : B b) (hh : w.heap[b]? = some (.cells cur e (0, 0))) (hs : cur.size = c * t.wd) (hc : l.length ≤ c) (hm : c ≤ 9223372036854775807)
   (hg : ∀ i x j u, l[i]? = some x → (t.cells x)[j]? = some u → cur[i * t.wd + j]? = some (g i j))
   (hS : ∀ i j d, S i j d → B d ∧ d ≠ b) (hd : ∀ i j i' j' d, S i j d → S i' j' d → i = i' ∧ j = j')
   (hr : ∀ i x j u, l[i]? = some x → (t.cells x)[j]? = some u → OwnC w (S i j) (g i j) u) : OwnC w B (.slice (some ⟨b, 0, none⟩) l.length c) ⟨.list t, l⟩

theorem RepC.mono {w w' : World} {F F' : Nat → Prop} {v : Value} {c : Cell} (h : RepC w F v c)
  (hF : ∀ b, F b → b < w.heap.size → F' b ∧ w'.heap[b]? = w.heap[b]?) (hs : w.heap.size ≤ w'.heap.size) : RepC w' F' v c := by
 induction h with
 | int h => exact .int h
 | bool => exact .bool
 | str h => exact .str h
 | junk h => exact .junk h
 | list g hc hm hA hr ih =>
  refine .list g hc hm (fun hne => ?_) ih
  obtain ⟨b, off, rfl, hf, hlt, hcell⟩ := hA hne
  obtain ⟨h1, h2⟩ := hF b hf hlt
  exact ⟨b, off, rfl, h1, Nat.lt_of_lt_of_le hlt hs, fun i x j u hx hu => by rw [World.cell?_of_block (w := w) h2]; exact hcell i x j u hx hu⟩
theorem RepC.one {w : World} {F : Nat → Prop} {v : Value} {c : Cell} (h : RepC w F v c) : v.oneCell' = true := by cases h <;> first | rfl | assumption
theorem RepC.okC {w : World} {F : Nat → Prop} {v : Value} {c : Cell} (h : RepC w F v c) : OkC c := by
 cases h with
 | int h => exact h
 | bool => trivial
 | str h => exact h
 | junk h => trivial
 | list g hc hm hA hr => exact Nat.le_trans hc hm

theorem OwnC.mono {w w' : World} {B B' : Nat → Prop} {v : Value} {c : Cell} (h : OwnC w B v c) (hB : ∀ b, B b → B' b ∧ w'.heap[b]? = w.heap[b]?) : OwnC w' B' v c := by
 induction h generalizing B' with
 | int h => exact .int h
 | bool => exact .bool
 | str h => exact .str h
 | junk h => exact .junk h
 | nil => exact .nil
 | list g S hb hh hs hc hm hg hS hd hr ih =>
  exact .list g S (hB _ hb).1 (by rw [(hB _ hb).2]; exact hh) hs hc hm hg (fun i j d hd => ⟨(hB d (hS i j d hd).1).1, (hS i j d hd).2⟩) hd
   (fun i x j u hx hu => ih i x j u hx hu (fun b hb => ⟨hb, (hB b (hS i j b hb).1).2⟩))
theorem OwnC.rep {w : World} {B : Nat → Prop} {v : Value} {c : Cell} (h : OwnC w B v c) : RepC w B v c := by
 induction h with
 | int h => exact .int h
 | bool => exact .bool
 | str h => exact .str h
 | junk h => exact .junk h
 | nil => exact .list (l := []) (fun _ _ => default) (Nat.le_refl _) (by omega) (fun h => absurd rfl h) (fun i x j u hx => by simp at hx)
 | @list B t l b c e cur g S hb hh hs hc hm hg hS hd hr ih =>
  refine .list g hc hm (fun _ => ⟨b, 0, rfl, hb, (Array.getElem?_eq_some_iff.1 hh).1, fun i x j u hx hu => ?_⟩) (fun i x j u hx hu => ?_)
  ·rw [cell_of_row w b _ cur e (0, 0) hh, Nat.zero_add]; exact hg i x j u hx hu
  ·exact (ih i x j u hx hu).mono (fun b h _ => ⟨(hS i j b h).1, rfl⟩) (Nat.le_refl _)
theorem OwnC.one {w : World} {B : Nat → Prop} {v : Value} {c : Cell} (h : OwnC w B v c) : v.oneCell' = true := h.rep.one

def RowOk (w : World) (F B : Nat → Prop) (e : Option TypeId) (v : Value) (t : Ty) (l : List t.den) (deep : Bool) : Prop :=
 (v = .slice none 0 0 ∧ l = []) ∨ ∃ (b c : Nat) (e0 : TypeId) (cur : Array Value) (g : Nat → Nat → Value) (S : Nat → Nat → Nat → Prop),
  v = .slice (some ⟨b, 0, none⟩) l.length c ∧ B b ∧ w.heap[b]? = some (.cells cur e0 (0, 0)) ∧ (∀ e', e = some e' → e0 = e') ∧ cur.size = c * t.wd ∧ l.length ≤ c ∧ c ≤ 9223372036854775807 ∧
  (∀ i x j u, l[i]? = some x → (t.cells x)[j]? = some u → cur[i * t.wd + j]? = some (g i j)) ∧
  (∀ i j d, S i j d → B d ∧ d ≠ b) ∧ (∀ i j i' j' d, S i j d → S i' j' d → i = i' ∧ j = j') ∧
  (∀ i x j u, l[i]? = some x → (t.cells x)[j]? = some u → if deep then OwnC w (S i j) (g i j) u else RepC w F (g i j) u)

theorem RowOk.own {w : World} {F B : Nat → Prop} {e : Option TypeId} {v : Value} {t : Ty} {l : List t.den} (h : RowOk w F B e v t l true) : OwnC w B v ⟨.list t, l⟩ := by
 rcases h with ⟨rfl, rfl⟩ | ⟨b, c, e0, cur, g, S, rfl, hB, hh, _, hs, hc, hm, hg, hS, hd, hr⟩
 ·exact .nil
 ·exact .list g S hB hh hs hc hm hg hS hd (fun i x j u hx hu => by simpa using hr i x j u hx hu)
theorem OwnC.row {w : World} {F B : Nat → Prop} {v : Value} {t : Ty} {l : List t.den} (h : OwnC w B v ⟨.list t, l⟩) : RowOk w F B none v t l true := by
 cases h with
 | nil => exact .inl ⟨rfl, rfl⟩
 | list g S hB hh hs hc hm hg hS hd hr => exact .inr ⟨_, _, _, _, g, S, rfl, hB, hh, (fun _ h => by cases h), hs, hc, hm, hg, hS, hd, fun i x j u hx hu => by simpa using hr i x j u hx hu⟩
theorem RowOk.rep {w : World} {F B : Nat → Prop} {e : Option TypeId} {v : Value} {t : Ty} {l : List t.den} {d : Bool} (h : RowOk w F B e v t l d) : RepC w (fun b => F b ∨ B b) v ⟨.list t, l⟩ := by
 rcases h with ⟨rfl, rfl⟩ | ⟨b, c, e0, cur, g, S, rfl, hB, hh, _, hs, hc, hm, hg, hS, hd, hr⟩
 ·exact .list (l := []) (fun _ _ => default) (Nat.le_refl _) (by omega) (fun h => absurd rfl h) (fun i x j u hx => by simp at hx)
 ·refine .list g hc hm (fun _ => ⟨b, 0, rfl, .inr hB, (Array.getElem?_eq_some_iff.1 hh).1, fun i x j u hx hu => ?_⟩) (fun i x j u hx hu => ?_)
  ·rw [cell_of_row w b _ cur e0 (0, 0) hh, Nat.zero_add]; exact hg i x j u hx hu
  ·have := hr i x j u hx hu
   split at this
   ·exact this.rep.mono (fun b h _ => ⟨.inr (hS i j b h).1, rfl⟩) (Nat.le_refl _)
   ·exact this.mono (fun b h _ => ⟨.inl h, rfl⟩) (Nat.le_refl _)

inductive At (w : World) : Value → (t : Ty) → List t.den → List (Nat × Nat) → Value → (t' : Ty) → List t'.den → Prop
 | here {v : Value} {t : Ty} {l : List t.den} : At w v t l [] v t l
 | step {b o n c k off : Nat} {t t1 t' : Ty} {l : List t.den} {l1 : List t1.den} {l' : List t'.den} {p : List (Nat × Nat)} {x : t.den} {v1 v' : Value}
   (hx : l[k]? = some x) (hn : nth (t.cells x) off = some ⟨.list t1, l1⟩) (hc : w.cell? ⟨b, o + (k * t.wd + off), none⟩ = some v1) (h : At w v1 t1 l1 p v' t' l') :
   At w (.slice (some ⟨b, o, none⟩) n c) t l ((k, off) :: p) v' t' l'

structure Env where
 hd : Nat → Nat
 hv : Nat → Value
 bs : Nat → Nat → Prop
 ro : Nat → Prop
def Fz (w : World) (E : Env) (tb : Tb) (b : Nat) : Prop := b < w.heap.size ∧ E.ro b ∧ ∀ id, (lk tb id).isSome = true → ¬ E.bs id b

def refOk (E : Env) (tb : Tb) (v : Value) (id off : Nat) : Prop := ∀ f vs, lk tb id = some (.box f vs) → v = .pointer (some ⟨E.hd id, off, none⟩)
def RepA (w : World) (E : Env) (tb : Tb) (v : Value) : A1 → Prop
 | .c x => RepC w (Fz w E tb) v x
 | .lit b => v = .bool b
 | .nil => v = .slice none 0 0
 | .val u => v = u
 | .ref id off => v.oneCell' = true ∧ refOk E tb v id off
 | .roe t l k off => ∃ (b o : Nat) (g : Nat → Nat → Value), v = .pointer (some ⟨b, o + (k * t.wd + off), none⟩) ∧ Fz w E tb b ∧ k < l.length ∧
   (∀ i x j u, l[i]? = some x → (t.cells x)[j]? = some u → w.cell? ⟨b, o + (i * t.wd + j), none⟩ = some (g i j) ∧ RepC w (Fz w E tb) (g i j) u)
 | .ptr id p k off => v.oneCell' = true ∧ ∀ e t l d, lk tb id = some (.row e t l d) → ∃ b o n c t' l', At w (E.hv id) t l p (.slice (some ⟨b, o, none⟩) n c) t' l' ∧ k < l'.length ∧ v = .pointer (some ⟨b, o + (k * t'.wd + off), none⟩)
 | .sl id p => v.oneCell' = true ∧ ∀ e t l d, lk tb id = some (.row e t l d) → ∃ t' l', At w (E.hv id) t l p v t' l'
 | .sub id lo n => v.oneCell' = true ∧ ∀ e t l d, lk tb id = some (.row e t l d) → ∃ A c, v = .slice A n c ∧ n ≤ c ∧ c ≤ 9223372036854775807 ∧ lo + n ≤ l.length ∧ (0 < n → ∃ b cap, E.hv id = .slice (some ⟨b, 0, none⟩) l.length cap ∧ A = some ⟨b, lo * t.wd, none⟩)
 | .fn f caps => ∃ arr : Array Value, v = .func (.func f) #[] arr ∧ arr.size = caps.length ∧ ∀ (i id : Nat), caps[i]? = some id → ∃ u, arr[i]? = some u ∧ u.oneCell' = true ∧ refOk E tb u id 0
def RepL (w : World) (E : Env) (tb : Tb) (arr : Array Value) (l : List A1) : Prop := arr.size = l.length ∧ ∀ (i : Nat) (a : A1), l[i]? = some a → ∃ u, arr[i]? = some u ∧ u.oneCell' = true ∧ RepA w E tb u a
def RepT (w : World) (E : Env) (tb : Tb) (v : Value) (c : Bool × List A1) : Prop :=
 match c with
 | (true, l) => ∃ arr : Array Value, v = .agg arr ∧ RepL w E tb arr l
 | (false, l) => ∃ a, l = [a] ∧ RepA w E tb v a
def RepV (w : World) (E : Env) (tb : Tb) (v : Value) : AV → Prop
 | .one a => RepA w E tb v a
 | .agg l => ∃ arr : Array Value, v = .agg arr ∧ RepL w E tb arr l
 | .tup l => ∃ arr : Array Value, v = .tuple arr ∧ arr.size = l.length ∧ ∀ (i : Nat) (c : Bool × List A1), l[i]? = some c → ∃ u, arr[i]? = some u ∧ RepT w E tb u c
def BlkOk (W0 w : World) (E : Env) (tb : Tb) (id : Nat) : Blk → Prop
 | .box lent vs => ∃ cur T, w.heap[E.hd id]? = some (.cells cur T (0, 0)) ∧ E.bs id (E.hd id) ∧ RepL w E tb cur vs ∧
   (lent = true → E.hd id < W0.heap.size ∧ ∀ (off : Nat) (a : A1), vs[off]? = some a → num1 a = false → w.cell? ⟨E.hd id, off, none⟩ = W0.cell? ⟨E.hd id, off, none⟩)
 | .row e t l d => RowOk w (Fz w E tb) (E.bs id) e (E.hv id) t l d

structure Sat (W0 : World) (E0 : Env) (nl : Nat) (N : Nat) (st : ASt) (E : Env) (a : Act) (w : World) : Prop where
 defers : a.defers = []
 size : a.tmps.size = N
 slots : ∀ i v, lk st.fr i = some v → ∃ u, a.tmps[i]? = some u ∧ RepV w E st.tb u v
 blks : ∀ id b, lk st.tb id = some b → BlkOk W0 w E st.tb id b
 disj : ∀ id id' b, (lk st.tb id).isSome = true → (lk st.tb id').isSome = true → E.bs id b → E.bs id' b → id = id'
 mine : ∀ id b, (lk st.tb id).isSome = true → E.bs id b → b < w.heap.size ∧ (b < W0.heap.size → ∃ i, i < nl ∧ E0.bs i b)
 lent : ∀ id, id < 20 → (lk st.tb id).isSome = true → E.hd id = E0.hd id ∧ E.hv id = E0.hv id ∧ ∀ b, E.bs id b → b < W0.heap.size → E0.bs id b
 frame : ∀ b, b < W0.heap.size → (∀ i, i < nl → ¬ E0.bs i b) → w.heap[b]? = W0.heap[b]?
 big : W0.heap.size ≤ w.heap.size
 ro : ∀ b, (W0.heap.size ≤ b ∨ ∃ i, i < nl ∧ E0.bs i b) → E.ro b
 roE : E.ro = E0.ro
 os : w.os = W0.os
 tape : w.tape = W0.tape
 output : w.output = W0.output
end Go.Proofs.YtpgglbnagphgoaaGreat
/- How what is known stays known when a state turns. No program is in sight. -/
namespace Go.Proofs.YtpgglbnagphgoaaGreat
open Go.RowKit

theorem nth_eq {α : Type} (l : List α) (i : Nat) : nth l i = l[i]? := by
 induction l generalizing i with
 | nil => cases i <;> rfl
 | cons a l ih => cases i with
  | zero => rfl
  | succ i => simpa [nth] using ih i
theorem mem?_iff (l : List Nat) (i : Nat) : mem? l i = true ↔ i ∈ l := by
 induction l with
 | nil => simp [mem?]
 | cons a l ih =>
  simp only [mem?]
  cases h : Nat.beq a i with
  | true => simp [Nat.eq_of_beq_eq_true h]
  | false =>
   have : i ≠ a := fun e => by subst e; simp [Nat.beq_refl] at h
   simp [ih, this]
theorem beq_iff (a b : Nat) : Nat.beq a b = true ↔ a = b := ⟨Nat.eq_of_beq_eq_true, fun h => by subst h; exact Nat.beq_refl _⟩
theorem beq_no {a b : Nat} : Nat.beq a b = false ↔ a ≠ b := by
 rw [← Bool.not_eq_true, beq_iff]
theorem lk_cons {α : Type} (j i : Nat) (a : α) (l : List (Nat × α)) : lk ((j, a) :: l) i = if i = j then some a else lk l i := by
 simp only [lk]
 cases h : Nat.beq j i with
 | true => simp [(beq_iff _ _).1 h]
 | false => rw [if_neg (fun e => (beq_no.1 h) e.symm)]; rfl
theorem lk_append {α : Type} (l m : List (Nat × α)) (i : Nat) : lk (l ++ m) i = (lk l i).or (lk m i) := by
 induction l with
 | nil => simp [lk]
 | cons p l ih =>
  obtain ⟨j, a⟩ := p
  rw [List.cons_append, lk_cons, lk_cons]
  split <;> simp [ih]
theorem lk_erl {α : Type} (d : List Nat) (l : List (Nat × α)) (i : Nat) : lk (erl d l) i = if i ∈ d then none else lk l i := by
 induction l with
 | nil => simp [erl, lk]
 | cons p l ih =>
  obtain ⟨j, a⟩ := p
  simp only [erl]
  cases h : mem? d j with
  | true =>
   have := (mem?_iff _ _).1 h
   rw [lk_cons]
   simp only [cond_true, ih]
   by_cases e : i = j
   ·subst e; simp [this]
   ·simp [e]
  | false =>
   have hn : j ∉ d := fun hm => by rw [(mem?_iff _ _).2 hm] at h; cases h
   simp only [cond_false]
   rw [lk_cons, lk_cons, ih]
   by_cases e : i = j
   ·subst e; simp [hn]
   ·simp [e]

theorem RepC.at_ {w : World} {G : Nat → Prop} {v v' : Value} {t t' : Ty} {l : List t.den} {l' : List t'.den} {p : List (Nat × Nat)} (h : At w v t l p v' t' l') (hr : RepC w G v ⟨.list t, l⟩) : RepC w G v' ⟨.list t', l'⟩ := by
 induction h with
 | here => exact hr
 | step hx hn hc _ ih =>
  apply ih
  generalize hv : Value.slice _ _ _ = v0 at hr
  generalize hcell : (⟨_, _⟩ : Cell) = c0 at hr
  cases hr with
  | list g h1 h2 hA hr =>
   injection hcell with e1 e2
   injection e1 with e1
   subst e1
   cases e2
   injection hv with e3 e4 e5
   rw [nth_eq] at hn
   obtain ⟨b, off, e, _, _, hcells⟩ := hA (by rintro rfl; simp at hx)
   rw [← e3] at e
   injection e with e
   injection e with e6 e7
   subst e6 e7
   rw [hcells _ _ _ _ hx hn] at hc
   injection hc with hc
   rw [← hc]
   exact hr _ _ _ _ hx hn
  | _ => cases hcell
theorem At.mono {w w' : World} {G : Nat → Prop} {v v' : Value} {t t' : Ty} {l : List t.den} {l' : List t'.den} {p : List (Nat × Nat)} (h : At w v t l p v' t' l') (hr : RepC w G v ⟨.list t, l⟩)
  (hG : ∀ b, G b → b < w.heap.size → w'.heap[b]? = w.heap[b]?) : At w' v t l p v' t' l' := by
 induction h with
 | here => exact .here
 | @step b o n c k off t t1 t' l l1 l' p x v1 v' hx hn hc h ih =>
  have hr1 : RepC w G v1 ⟨.list t1, l1⟩ := RepC.at_ (.step hx hn hc .here) hr
  refine .step hx hn ?_ (ih hr1)
  rw [← hc]
  refine World.cell?_of_block (w := w) (hG b ?_ (World.block_lt_of_cell? _ _ hc))
  generalize hv : Value.slice _ _ _ = v0 at hr
  generalize hcell : (⟨_, _⟩ : Cell) = c0 at hr
  cases hr with
  | list g h1 h2 hA hr =>
   injection hcell with e1 e2
   injection e1 with e1
   subst e1
   cases e2
   injection hv with e3 e4 e5
   obtain ⟨b', off, e, hb, _⟩ := hA (by rintro rfl; simp at hx)
   rw [← e3] at e
   injection e with e
   injection e with e6 e7
   rw [e6]
   exact hb
  | _ => cases hcell

structure KeepId (w : World) (E : Env) (tb : Tb) (w' : World) (E' : Env) (tb' : Tb) (id : Nat) (T : Prop) : Prop where
 box : ∀ f vs, lk tb' id = some (.box f vs) → (∃ g us, lk tb id = some (.box g us)) ∧ E'.hd id = E.hd id
 row : ∀ e t l d, lk tb' id = some (.row e t l d) → ∃ e0 l0 d0, lk tb id = some (.row e0 t l0 d0) ∧ E'.hv id = E.hv id ∧ l.length = l0.length ∧
  (T → ∀ p v t1 l1, At w (E.hv id) t l0 p v t1 l1 → ∃ l2, At w' (E.hv id) t l p v t1 l2 ∧ l2.length = l1.length)

section
variable {w w' : World} {E E' : Env} {tb tb' : Tb}
theorem refOk.keep {v : Value} {id off : Nat} (h : refOk E tb v id off) (hk : KeepId w E tb w' E' tb' id False) : refOk E' tb' v id off := fun f vs hl => by
 obtain ⟨⟨g, us, h1⟩, h2⟩ := hk.box f vs hl
 rw [h2]
 exact h g us h1
theorem KeepId.weak {id : Nat} {T : Prop} (hk : KeepId w E tb w' E' tb' id T) : KeepId w E tb w' E' tb' id False :=
 ⟨hk.box, fun e t l d hl => let ⟨e0, l0, d0, h1, h2, h3, _⟩ := hk.row e t l d hl; ⟨e0, l0, d0, h1, h2, h3, fun h => h.elim⟩⟩
theorem At.nil_inv {v v' : Value} {t t' : Ty} {l : List t.den} {l' : List t'.den} (h : At w v t l [] v' t' l') : v' = v ∧ (⟨t', l'⟩ : Σ t : Ty, List t.den) = ⟨t, l⟩ := by
 cases h
 exact ⟨rfl, rfl⟩
theorem RepA.keep {v : Value} {a : A1} (h : RepA w E tb v a) (hf : ∀ b, Fz w E tb b → Fz w' E' tb' b ∧ w'.heap[b]? = w.heap[b]?) (hs : w.heap.size ≤ w'.heap.size)
  (hk : ∀ id, men1 id a = true → KeepId w E tb w' E' tb' id (thru1 [id] a = true)) : RepA w' E' tb' v a := by
 cases a with
 | c x => exact RepC.mono h (fun b hb _ => hf b hb) hs
 | lit b => exact h
 | nil => exact h
 | val u => exact h
 | ref id off => exact ⟨h.1, h.2.keep (hk id (Nat.beq_refl _)).weak⟩
 | roe t l k off =>
  obtain ⟨b, o, g, rfl, hb, hkl, hc⟩ := h
  refine ⟨b, o, g, rfl, (hf b hb).1, hkl, fun i x j u hx hu => ?_⟩
  obtain ⟨h1, h2⟩ := hc i x j u hx hu
  exact ⟨by rw [World.cell?_of_block (w := w) (hf b hb).2]; exact h1, h2.mono (fun b hb _ => hf b hb) hs⟩
 | ptr id p k off =>
  refine ⟨h.1, fun e t l d hl => ?_⟩
  obtain ⟨e0, l0, d0, h1, h2, h3, h4⟩ := (hk id (Nat.beq_refl _)).row e t l d hl
  obtain ⟨b, o, n, c, t', l', hat, hkl, hv⟩ := h.2 e0 t l0 d0 h1
  rw [h2]
  cases p with
  | nil =>
   obtain ⟨e1, e2⟩ := hat.nil_inv
   cases e2
   exact ⟨b, o, n, c, t, l, by rw [e1]; exact .here, by rw [h3]; exact hkl, hv⟩
  | cons q p =>
   obtain ⟨l2, h5, h6⟩ := h4 (by simp [thru1, mem?, Nat.beq_refl]) _ _ _ _ hat
   exact ⟨b, o, n, c, t', l2, h5, by rw [h6]; exact hkl, hv⟩
 | sl id p =>
  refine ⟨h.1, fun e t l d hl => ?_⟩
  obtain ⟨e0, l0, d0, h1, h2, h3, h4⟩ := (hk id (Nat.beq_refl _)).row e t l d hl
  obtain ⟨t', l', hat⟩ := h.2 e0 t l0 d0 h1
  rw [h2]
  cases p with
  | nil =>
   obtain ⟨e1, e2⟩ := hat.nil_inv
   cases e2
   exact ⟨t, l, by rw [e1]; exact .here⟩
  | cons q p =>
   obtain ⟨l2, h5, _⟩ := h4 (by simp [thru1, mem?, Nat.beq_refl]) _ _ _ _ hat
   exact ⟨t', l2, h5⟩
 | sub id lo n =>
  refine ⟨h.1, fun e t l d hl => ?_⟩
  obtain ⟨e0, l0, d0, h1, h2, h3, h4⟩ := (hk id (Nat.beq_refl _)).row e t l d hl
  obtain ⟨A, c, hv, hn, hc, hlo, hx⟩ := h.2 e0 t l0 d0 h1
  rw [h2, h3]
  exact ⟨A, c, hv, hn, hc, hlo, hx⟩
 | fn f caps =>
  obtain ⟨arr, rfl, hz, hc⟩ := h
  refine ⟨arr, rfl, hz, fun i id hi => ?_⟩
  obtain ⟨u, hu, h1, h2⟩ := hc i id hi
  exact ⟨u, hu, h1, h2.keep (hk id ((mem?_iff _ _).2 (List.mem_of_getElem? hi))).weak⟩

def Good1 (w : World) (E : Env) (tb : Tb) (w' : World) (E' : Env) (tb' : Tb) (a : A1) : Prop := ∀ id, men1 id a = true → KeepId w E tb w' E' tb' id (thru1 [id] a = true)
def GoodL (w : World) (E : Env) (tb : Tb) (w' : World) (E' : Env) (tb' : Tb) (l : List A1) : Prop := ∀ a ∈ l, Good1 w E tb w' E' tb' a
def GoodV (w : World) (E : Env) (tb : Tb) (w' : World) (E' : Env) (tb' : Tb) : AV → Prop
 | .one a => Good1 w E tb w' E' tb' a
 | .agg l => GoodL w E tb w' E' tb' l
 | .tup l => ∀ c ∈ l, GoodL w E tb w' E' tb' c.2
theorem RepL.keep {arr : Array Value} {l : List A1} (h : RepL w E tb arr l) (hf : ∀ b, Fz w E tb b → Fz w' E' tb' b ∧ w'.heap[b]? = w.heap[b]?) (hs : w.heap.size ≤ w'.heap.size)
  (hk : GoodL w E tb w' E' tb' l) : RepL w' E' tb' arr l :=
 ⟨h.1, fun i a hi => let ⟨u, h1, h2, h3⟩ := h.2 i a hi; ⟨u, h1, h2, h3.keep hf hs (hk a (List.mem_of_getElem? hi))⟩⟩
theorem RepT.keep {v : Value} {c : Bool × List A1} (h : RepT w E tb v c) (hf : ∀ b, Fz w E tb b → Fz w' E' tb' b ∧ w'.heap[b]? = w.heap[b]?) (hs : w.heap.size ≤ w'.heap.size)
  (hk : GoodL w E tb w' E' tb' c.2) : RepT w' E' tb' v c := by
 obtain ⟨ag, l⟩ := c
 cases ag with
 | true =>
  obtain ⟨arr, h1, h2⟩ := h
  exact ⟨arr, h1, h2.keep hf hs hk⟩
 | false =>
  obtain ⟨a, h1, h2⟩ := h
  exact ⟨a, h1, h2.keep hf hs (hk a (by show a ∈ l; rw [h1]; simp))⟩
theorem RepV.keep {v : Value} {x : AV} (h : RepV w E tb v x) (hf : ∀ b, Fz w E tb b → Fz w' E' tb' b ∧ w'.heap[b]? = w.heap[b]?) (hs : w.heap.size ≤ w'.heap.size)
  (hk : GoodV w E tb w' E' tb' x) : RepV w' E' tb' v x := by
 cases x with
 | one a => exact RepA.keep h hf hs hk
 | agg l =>
  obtain ⟨arr, h1, h2⟩ := h
  exact ⟨arr, h1, h2.keep hf hs hk⟩
 | tup l =>
  obtain ⟨arr, h1, h2, h3⟩ := h
  exact ⟨arr, h1, h2, fun i c hi => let ⟨u, h4, h5⟩ := h3 i c hi; ⟨u, h4, h5.keep hf hs (hk c (List.mem_of_getElem? hi))⟩⟩
end
end Go.Proofs.YtpgglbnagphgoaaGreat
/- A state whose blocks have turned in part: all else stays. No program is in sight. -/
namespace Go.Proofs.YtpgglbnagphgoaaGreat
open Go.RowKit

theorem RowOk.mono {w w' : World} {F F' B B' : Nat → Prop} {e : Option TypeId} {v : Value} {t : Ty} {l : List t.den} {d : Bool} (h : RowOk w F B e v t l d)
  (hF : ∀ b, F b → b < w.heap.size → F' b ∧ w'.heap[b]? = w.heap[b]?) (hB : ∀ b, B b → B' b ∧ w'.heap[b]? = w.heap[b]?) (hs : w.heap.size ≤ w'.heap.size) : RowOk w' F' B' e v t l d := by
 rcases h with ⟨rfl, rfl⟩ | ⟨b, c, e0, cur, g, S, rfl, hb, hh, he, hsz, hc, hm, hg, hS, hd, hr⟩
 ·exact .inl ⟨rfl, rfl⟩
 ·refine .inr ⟨b, c, e0, cur, g, S, rfl, (hB b hb).1, by rw [(hB b hb).2]; exact hh, he, hsz, hc, hm, hg, fun i j d hd => ⟨(hB d (hS i j d hd).1).1, (hS i j d hd).2⟩, hd, fun i x j u hx hu => ?_⟩
  have := hr i x j u hx hu
  cases d with
  | true =>
   simp only [if_true] at this ⊢
   exact this.mono (fun b hb => ⟨hb, (hB b (hS i j b hb).1).2⟩)
  | false =>
   simp only [Bool.false_eq_true, if_false] at this ⊢
   exact this.mono hF hs

structure Chg (st : ASt) (E : Env) (w : World) (st' : ASt) (E' : Env) (w' : World) (C : Nat → Prop) : Prop where
 same : ∀ id, ¬ C id → lk st'.tb id = lk st.tb id ∧ E'.hd id = E.hd id ∧ E'.hv id = E.hv id ∧ E'.bs id = E.bs id
 heap : ∀ b, b < w.heap.size → (∀ id, C id → (lk st.tb id).isSome = true → ¬ E.bs id b) → w'.heap[b]? = w.heap[b]?
 size : w.heap.size ≤ w'.heap.size
 bs : ∀ id b, C id → (lk st'.tb id).isSome = true → E'.bs id b → b < w'.heap.size ∧ ((∃ c, C c ∧ (lk st.tb c).isSome = true ∧ E.bs c b) ∨ w.heap.size ≤ b)
 disj : ∀ id id' b, C id → C id' → (lk st'.tb id).isSome = true → (lk st'.tb id').isSome = true → E'.bs id b → E'.bs id' b → id = id'
 ro : E'.ro = E.ro
 os : w'.os = w.os
 tape : w'.tape = w.tape
 output : w'.output = w.output

section
variable {W0 w w' : World} {E0 E E' : Env} {nl N : Nat} {st st' : ASt} {a a' : Act} {C : Nat → Prop}
theorem Chg.fz (c : Chg st E w st' E' w' C) (b : Nat) (hb : Fz w E st.tb b) : Fz w' E' st'.tb b ∧ w'.heap[b]? = w.heap[b]? := by
 refine ⟨⟨Nat.lt_of_lt_of_le hb.1 c.size, by rw [c.ro]; exact hb.2.1, fun id hid hbs => ?_⟩, c.heap b hb.1 fun id _ h1 h2 => hb.2.2 id h1 h2⟩
 by_cases hC : C id
 ·rcases (c.bs id b hC hid hbs).2 with ⟨i, _, h1, h2⟩ | h
  ·exact hb.2.2 i h1 h2
  ·exact absurd hb.1 (Nat.not_lt.2 h)
 ·obtain ⟨h1, _, _, h4⟩ := c.same id hC
  rw [h1] at hid
  rw [h4] at hbs
  exact hb.2.2 id hid hbs
theorem Sat.rok (h : Sat W0 E0 nl N st E a w) {id b : Nat} (hid : (lk st.tb id).isSome = true) (hb : E.bs id b) : E.ro b := by
 rcases Nat.lt_or_ge b W0.heap.size with hlt | hge
 ·exact h.ro b (.inr ((h.mine id b hid hb).2 hlt))
 ·exact h.ro b (.inl hge)
theorem Chg.out (h : Sat W0 E0 nl N st E a w) (c : Chg st E w st' E' w' C) {id b : Nat} (hC : ¬ C id) (hid : (lk st.tb id).isSome = true) (hb : E.bs id b) : w'.heap[b]? = w.heap[b]? :=
 c.heap b (h.mine id b hid hb).1 fun i hi h1 h2 => hC (h.disj i id b h1 hid h2 hb ▸ hi)
theorem Chg.keep (h : Sat W0 E0 nl N st E a w) (c : Chg st E w st' E' w' C) {id : Nat} (hC : ¬ C id) (T : Prop) : KeepId w E st.tb w' E' st'.tb id T := by
 obtain ⟨h1, h2, h3, h4⟩ := c.same id hC
 refine ⟨fun f vs hl => ⟨⟨f, vs, by rw [← h1]; exact hl⟩, h2⟩, fun e t l d hl => ⟨e, l, d, by rw [← h1]; exact hl, h3, rfl, fun _ p v t1 l1 hat => ⟨l1, ?_, rfl⟩⟩⟩
 rw [h1] at hl
 have hr := (h.blks id _ hl : RowOk _ _ _ _ _ _ _ _)
 refine hat.mono hr.rep fun b hb _ => ?_
 rcases hb with hb | hb
 ·exact (c.fz b hb).2
 ·exact c.out h hC (by rw [hl]; rfl) hb

theorem Sat.chg (h : Sat W0 E0 nl N st E a w) (c : Chg st E w st' E' w' C)
  (hfr : ∀ i v, lk st'.fr i = some v → (lk st.fr i = some v ∧ a'.tmps[i]? = a.tmps[i]? ∧ GoodV w E st.tb w' E' st'.tb v) ∨ ∃ u, a'.tmps[i]? = some u ∧ RepV w' E' st'.tb u v)
  (hbox : ∀ id f vs, ¬ C id → lk st.tb id = some (.box f vs) → GoodL w E st.tb w' E' st'.tb vs)
  (hblk : ∀ id b, C id → lk st'.tb id = some b → BlkOk W0 w' E' st'.tb id b)
  (hlent : ∀ id, id < 20 → C id → (lk st'.tb id).isSome = true → E'.hd id = E0.hd id ∧ E'.hv id = E0.hv id ∧ ∀ b, E'.bs id b → b < W0.heap.size → E0.bs id b)
  (hdef : a'.defers = []) (hsz : a'.tmps.size = N) : Sat W0 E0 nl N st' E' a' w' := {
 defers := hdef
 size := hsz
 slots := fun i v hi => by
  rcases hfr i v hi with ⟨h1, h2, h3⟩ | h1
  ·obtain ⟨u, h4, h5⟩ := h.slots i v h1
   exact ⟨u, by rw [h2]; exact h4, h5.keep c.fz c.size h3⟩
  ·exact h1
 blks := fun id b hb => by
  by_cases hC : C id
  ·exact hblk id b hC hb
  ·obtain ⟨h1, h2, h3, h4⟩ := c.same id hC
   have hb' := hb
   rw [h1] at hb
   have ho := h.blks id b hb
   have hout := fun {x} => c.out (b := x) h hC (by rw [hb]; rfl)
   cases b with
   | box lent vs =>
    obtain ⟨cur, T, g1, g2, g3, g4⟩ := ho
    have hx := hout g2
    refine ⟨cur, T, by rw [h2, hx]; exact g1, by rw [h2, h4]; exact g2, g3.keep c.fz c.size (hbox id _ _ hC hb), fun hl => ?_⟩
    obtain ⟨g5, g6⟩ := g4 hl
    refine ⟨by rw [h2]; exact g5, fun off x ho hn => ?_⟩
    rw [h2, World.cell?_of_block (w := w) (a := ⟨E.hd id, off, none⟩) hx]
    exact g6 off x ho hn
   | row e t l d =>
    show RowOk w' _ (E'.bs id) e (E'.hv id) t l d
    rw [h3, h4]
    exact RowOk.mono ho (fun b hb _ => c.fz b hb) (fun b hb => ⟨hb, hout hb⟩) c.size
 disj := fun id id' b h1 h2 h3 h4 => by
  by_cases hC : C id
  ·by_cases hC' : C id'
   ·exact c.disj id id' b hC hC' h1 h2 h3 h4
   ·obtain ⟨g1, _, _, g4⟩ := c.same id' hC'
    rw [g1] at h2
    rw [g4] at h4
    rcases (c.bs id b hC h1 h3).2 with ⟨i, k1, k2, k3⟩ | k
    ·exact absurd (h.disj i id' b k2 h2 k3 h4 ▸ k1) hC'
    ·exact absurd (h.mine id' b h2 h4).1 (Nat.not_lt.2 k)
  ·obtain ⟨g1, _, _, g4⟩ := c.same id hC
   rw [g1] at h1
   rw [g4] at h3
   by_cases hC' : C id'
   ·rcases (c.bs id' b hC' h2 h4).2 with ⟨i, k1, k2, k3⟩ | k
    ·exact absurd (h.disj i id b k2 h1 k3 h3 ▸ k1) hC
    ·exact absurd (h.mine id b h1 h3).1 (Nat.not_lt.2 k)
   ·obtain ⟨g1', _, _, g4'⟩ := c.same id' hC'
    rw [g1'] at h2
    rw [g4'] at h4
    exact h.disj id id' b h1 h2 h3 h4
 mine := fun id b h1 h2 => by
  by_cases hC : C id
  ·obtain ⟨k1, k2⟩ := c.bs id b hC h1 h2
   refine ⟨k1, fun hlt => ?_⟩
   rcases k2 with ⟨i, _, k3, k4⟩ | k
   ·exact (h.mine i b k3 k4).2 hlt
   ·have := h.big; omega
  ·obtain ⟨g1, _, _, g4⟩ := c.same id hC
   rw [g1] at h1
   rw [g4] at h2
   have := h.mine id b h1 h2
   exact ⟨Nat.lt_of_lt_of_le this.1 c.size, this.2⟩
 lent := fun id h1 h2 => by
  by_cases hC : C id
  ·exact hlent id h1 hC h2
  ·obtain ⟨g1, g2, g3, g4⟩ := c.same id hC
   rw [g1] at h2
   rw [g2, g3, g4]
   exact h.lent id h1 h2
 frame := fun b h1 h2 => by
  rw [← h.frame b h1 h2]
  refine c.heap b (Nat.lt_of_lt_of_le h1 h.big) fun id _ k1 k2 => ?_
  obtain ⟨i, k3, k4⟩ := (h.mine id b k1 k2).2 h1
  exact h2 i k3 k4
 big := Nat.le_trans h.big c.size
 ro := fun b hb => by rw [c.ro]; exact h.ro b hb
 roE := c.ro.trans h.roE
 os := c.os.trans h.os
 tape := c.tape.trans h.tape
 output := c.output.trans h.output }

theorem Sat.put (h : Sat W0 E0 nl N st E a w) {dst : Option Nat} {v : AV} {u : Value} (hd : ∀ d, dst = some d → d < N) (hv : RepV w E st.tb u v) :
  Sat W0 E0 nl N { st with fr := putF dst v st.fr } E (a.put dst u) w := by
 cases dst with
 | none => exact h
 | some d =>
  have hdN : d < a.tmps.size := by rw [h.size]; exact hd d rfl
  refine { h with size := by simp [Act.put, h.size], slots := fun i x hi => ?_ }
  simp only [putF] at hi
  rw [lk_cons] at hi
  split at hi
  ·rename_i e
   subst e
   injection hi with hi
   subst hi
   exact ⟨u, by simp [Act.put, hdN], hv⟩
  ·rename_i e
   obtain ⟨u', h1, h2⟩ := h.slots i x hi
   exact ⟨u', by simp only [Act.put]; rw [Array.getElem?_setIfInBounds_ne (fun e' => e e'.symm)]; exact h1, h2⟩
theorem Sat.drew (h : Sat W0 E0 nl N st E a w) (n : Nat) : Sat W0 E0 nl N st E a { w with drawn := n } := by
 have e : (∀ x, World.cell? { w with drawn := n } x = w.cell? x) := fun _ => rfl
 have hf : ∀ b, Fz w E st.tb b → Fz { w with drawn := n } E st.tb b ∧ (World.heap { w with drawn := n })[b]? = w.heap[b]? := fun b hb => ⟨hb, rfl⟩
 have c : Chg st E w st E { w with drawn := n } (fun _ => False) := ⟨fun _ _ => ⟨rfl, rfl, rfl, rfl⟩, fun _ _ _ => rfl, Nat.le_refl _, fun _ _ h => h.elim, fun _ _ _ h => h.elim, rfl, rfl, rfl, rfl⟩
 have hk : ∀ id T, KeepId w E st.tb { w with drawn := n } E st.tb id T := fun id T => c.keep h (fun h => h) T
 exact h.chg c (fun i v hi => .inl ⟨hi, rfl, by
   cases v with
   | one a => exact fun id _ => hk id _
   | agg l => exact fun a _ id _ => hk id _
   | tup l => exact fun c _ a _ id _ => hk id _⟩)
  (fun _ _ _ _ _ => fun a _ id _ => hk id _) (fun _ _ h => h.elim) (fun _ _ h => h.elim) h.defers h.size
end
end Go.Proofs.YtpgglbnagphgoaaGreat
/- One operation: what the abstract step says, the model does. Operations that only compute. -/
namespace Go.Proofs.YtpgglbnagphgoaaGreat
open Go.RowKit
open SR (opt)

theorem erl_nil {α : Type} (l : List (Nat × α)) : erl [] l = l := by
 induction l with
 | nil => rfl
 | cons p l ih => obtain ⟨j, a⟩ := p; simp [erl, mem?, ih]
@[simp] theorem opt_pre {α : Type} (o : Option α) (f : α → SR) : (opt o f).pre ↔ ∃ x, o = some x ∧ (f x).pre := by
 cases o <;> simp [opt, SR.pre]
@[simp] theorem opt_outs {α : Type} (o : Option α) (f : α → SR) (e : Eff) : (opt o f).outs e ↔ ∃ x, o = some x ∧ (f x).outs e := by
 cases o <;> simp [opt, SR.outs]
theorem bif_bad {b : Bool} {r : SR} : (bif b then r else .bad).pre ↔ b = true ∧ r.pre := by cases b <;> simp [SR.pre]

section
variable {P : Program} {Γ : Cfg} {W0 w : World} {E0 E : Env} {nl N : Nat} {st : ASt} {a : Act}

theorem cst1_ok (v : Value) : RepA w E st.tb v (cst1 v) := by
 unfold cst1
 split
 ·split
  ·rename_i h; exact RepC.int h
  ·rfl
 ·rfl
 ·rename_i s
  cases hb : Nat.ble s.size 9223372036854775807 with
  | true => exact RepC.str (Nat.le_of_ble_eq_true hb)
  | false => exact rfl
 ·rfl
 ·rfl
theorem cst_ok (v : Value) : RepV w E st.tb v (cst v) := by
 unfold cst
 split
 ·rename_i arr
  cases h : arr.toList.all Value.oneCell' with
  | true =>
   refine ⟨arr, rfl, by simp, fun i x hi => ?_⟩
   simp only [List.getElem?_map, Option.map_eq_some_iff] at hi
   obtain ⟨u, hu, rfl⟩ := hi
   exact ⟨u, by simpa using hu, (List.all_eq_true.1 h) u (List.mem_of_getElem? hu), cst1_ok u⟩
  | false => exact rfl
 ·exact cst1_ok v
theorem Sat.ev (h : Sat W0 E0 nl N st E a w) {x : Operand} {v : AV} (hx : st.ev x = some v) : RepV w E st.tb (a.eval x) v := by
 cases x with
 | tmp t =>
  obtain ⟨u, h1, h2⟩ := h.slots t v hx
  simpa [Act.eval, h1] using h2
 | const c =>
  simp only [ASt.ev, Option.some.injEq] at hx
  subst hx
  exact cst_ok c
 | func f =>
  simp only [ASt.ev, Option.some.injEq] at hx
  subst hx
  exact ⟨#[], rfl, rfl, fun i id hi => by simp at hi⟩
 | global g => cases hx
theorem Sat.ev1 (h : Sat W0 E0 nl N st E a w) {x : Operand} {v : A1} (hx : st.ev1 x = some v) : RepA w E st.tb (a.eval x) v := by
 unfold ASt.ev1 at hx
 split at hx
 ·rename_i b hb
  injection hx with hx
  subst hx
  exact h.ev hb
 ·cases hx

def After (W0 : World) (E0 : Env) (nl N : Nat) (st : ASt) (o : Oper) (r : SR) (a' : Act) (w' : World) : Prop := ∃ e E', r.outs e ∧ Sat W0 E0 nl N (e.app st o.dst) E' a' w'
theorem val_op (h : Sat W0 E0 nl N st E a w) {o : Oper} {r : SR} (hd : ∀ d, o.dst = some d → d < N) {u : Value} {v : AV} (hrun : (execOp a.eval o).run P w = .ok (.value u) w) (ho : r.outs { val := v }) (hv : RepV w E st.tb u v)
  (Q : Exit → Act → World → Prop) : o.wp P a w (After W0 E0 nl N st o r) Q := by
 unfold Oper.wp
 rw [hrun]
 refine ⟨_, E, ho, ?_⟩
 have := h.put (dst := o.dst) hd hv
 simpa [Eff.app, killF, erl_nil] using this
def ValOk (P : Program) (E : Env) (st : ASt) (a : Act) (w : World) (o : Oper) (r : SR) : Prop :=
 ∃ u v, (execOp a.eval o).run P w = .ok (.value u) w ∧ r.outs { val := v } ∧ RepV w E st.tb u v

theorem int_wrap {k : IntKind} {n : Int} (h : okI k n) : k.wrap n = n := by
 cases k <;> simp only [okI] at h
 ·exact IntWalk.i8_in n h
 ·exact IntWalk.i16_in n h
 ·exact IntWalk.i32_in n h
 ·exact IntWalk.i64_in n h
 ·exact IntWalk.u8_in n h
 ·exact IntWalk.u16_in n h
 ·exact IntWalk.u32_in n h
 ·exact IntWalk.u64_in n h
theorem wrap_ok (k : IntKind) (n : Int) : okI k (k.wrap n) := by
 cases k <;> simp only [okI, IntKind.wrap, IntKind.bits, IntKind.signed] <;> (try simp) <;> (try split) <;> omega
theorem toList_eq_iff (x y : ByteArray) : x.toList = y.toList ↔ x = y := by
 constructor
 ·intro h
  have := congrArg List.toArray h
  cases x; cases y
  simp_all [ByteArray.toList_eq]
 ·rintro rfl; rfl
end
end Go.Proofs.YtpgglbnagphgoaaGreat
/- Operations that only compute, one by one. -/
namespace Go.Proofs.YtpgglbnagphgoaaGreat
open Go.RowKit
open SR (opt)

section
variable {P : Program} {Γ : Cfg} {W0 w : World} {E0 E : Env} {nl N base : Nat} {st : ASt} {a : Act} {o : Oper}

theorem vo_move (h : Sat W0 E0 nl N st E a w) {x : Operand} (ho : o.op = .move x ∨ o.op = .assign x) (hp : (step P Γ base o st).pre) : ValOk P E st a w o (step P Γ base o st) := by
 have e : step P Γ base o st = opt (st.ev x) fun v => .ret { val := v } := by rcases ho with ho | ho <;> simp only [step, ho]
 rw [e] at hp ⊢
 obtain ⟨v, hv, _⟩ := (opt_pre _ _).1 hp
 exact ⟨a.eval x, v, by rcases ho with ho | ho <;> simp [execOp, ho], (opt_outs _ _ _).2 ⟨v, hv, rfl⟩, h.ev hv⟩

theorem bool_of {b : Bool} {u : Value} (h : RepA w E st.tb u (.c ⟨.bool, b⟩)) : u = .bool b := by
 cases h
 rfl
theorem int_of {k : IntKind} {n : Int} {u : Value} (h : RepA w E st.tb u (.c ⟨.int k, n⟩)) : u = .int k n ∧ okI k n := by
 cases h with
 | int h => exact ⟨rfl, h⟩
theorem str_of {s : ByteArray} {u : Value} (h : RepA w E st.tb u (.c ⟨.str, s⟩)) : u = .string s ∧ s.size ≤ 9223372036854775807 := by
 cases h with
 | str h => exact ⟨rfl, h⟩
theorem list_of {F : Nat → Prop} {t : Ty} {l : List t.den} {u : Value} (h : RepC w F u ⟨.list t, l⟩) : ∃ A c, u = .slice A l.length c ∧ l.length ≤ c ∧ c ≤ 9223372036854775807 := by
 cases h with
 | list g hc hm hA hr => exact ⟨_, _, rfl, hc, hm⟩

theorem vo_pick (h : Sat W0 E0 nl N st E a w) {c x y : Operand} (ho : o.op = .pick c x y) (hp : (step P Γ base o st).pre) : ValOk P E st a w o (step P Γ base o st) := by
 simp only [step, ho, opt_pre] at hp
 obtain ⟨c', hc, x', hx, y', hy, hp⟩ := hp
 have hc' := h.ev1 hc
 unfold ValOk
 simp only [step, ho, opt_outs]
 cases c' with
 | lit b =>
  have hb : a.eval c = .bool b := hc'
  cases b with
  | true => exact ⟨a.eval x, x', by simp [execOp, ho, hb, asBool], ⟨_, hc, _, hx, _, hy, rfl⟩, h.ev hx⟩
  | false => exact ⟨a.eval y, y', by simp [execOp, ho, hb, asBool], ⟨_, hc, _, hx, _, hy, rfl⟩, h.ev hy⟩
 | c z =>
  obtain ⟨t, b⟩ := z
  cases t with
  | bool =>
   have hb := bool_of hc'
   cases b with
   | true => exact ⟨a.eval x, x', by simp [execOp, ho, hb, asBool], ⟨_, hc, _, hx, _, hy, .inl ⟨rfl, rfl⟩⟩, h.ev hx⟩
   | false => exact ⟨a.eval y, y', by simp [execOp, ho, hb, asBool], ⟨_, hc, _, hx, _, hy, .inr ⟨rfl, rfl⟩⟩, h.ev hy⟩
  | _ => exact hp.elim
 | _ => exact hp.elim

theorem vo_un (h : Sat W0 E0 nl N st E a w) {op : UnOp} {t : TypeId} {x : Operand} (ho : o.op = .unOp op t x) (hp : (step P Γ base o st).pre) : ValOk P E st a w o (step P Γ base o st) := by
 simp only [step, ho, opt_pre] at hp
 obtain ⟨x', hx, hp⟩ := hp
 have hx' := h.ev1 hx
 unfold ValOk
 simp only [step, ho, opt_outs]
 cases x' with
 | lit b =>
  have hb : a.eval x = .bool b := hx'
  cases op with
  | not => exact ⟨.bool (!b), _, by simp [execOp, ho, hb, Op.unary], ⟨_, hx, rfl⟩, rfl⟩
  | _ => exact hp.elim
 | c z =>
  obtain ⟨t', b⟩ := z
  cases t' with
  | bool =>
   have hb := bool_of hx'
   cases op with
   | not => exact ⟨.bool (!b), _, by simp [execOp, ho, hb, Op.unary], ⟨_, hx, rfl⟩, RepC.bool⟩
   | _ => exact hp.elim
  | int k =>
   have hb := int_of hx'
   cases op with
   | neg =>
    have hn : okI k (-b : Int) := hp.1
    have hw : k.wrap (-b) = -b := int_wrap hn
    exact ⟨.int k (-b), _, by simp [execOp, ho, hb.1, Op.unary, Op.intArith, hw], ⟨_, hx, rfl⟩, RepC.int hn⟩
   | _ => exact hp.elim
  | _ => cases op <;> exact hp.elim
 | _ => cases op <;> exact hp.elim

theorem run_bin {op : BinOp} {xT yT : TypeId} {x y : Operand} (ho : o.op = .binOp op xT x y yT) (hg : (eqGuard op xT x y (a.eval x) (a.eval y)).run P w = .ok () w) {u : Value} (hb : (binOp op xT (a.eval x) (a.eval y)).run P w = .ok u w) :
  (execOp a.eval o).run P w = .ok (.value u) w := by
 simp [execOp, ho, hg, hb]
theorem run_eqGuard_int {op : BinOp} {t : TypeId} {x y : Operand} {k k' : IntKind} {m n : Int} : (eqGuard op t x y (.int k m) (.int k' n)).run P w = .ok () w := by
 unfold eqGuard; split <;> rfl
theorem run_eqGuard_str {op : BinOp} {t : TypeId} {x y : Operand} {m n : ByteArray} : (eqGuard op t x y (.string m) (.string n)).run P w = .ok () w := by
 unfold eqGuard; split <;> rfl
theorem run_eqGuard_bool {op : BinOp} {t : TypeId} {x y : Operand} {m n : Bool} : (eqGuard op t x y (.bool m) (.bool n)).run P w = .ok () w := by
 unfold eqGuard; split <;> rfl
theorem run_eqGuard_slice {op : BinOp} {t : TypeId} {x y : Operand} {A B : Option Addr} {m n c d : Nat} : (eqGuard op t x y (.slice A m c) (.slice B n d)).run P w = .ok () w := by
 unfold eqGuard; split <;> rfl

theorem tdiv_ok {k : IntKind} {m n : Int} (hm : okI k m) (h : 0 ≤ m ∧ 0 < n) : k.wrap (m.tdiv n) = m / n ∧ okI k (m / n) := by
 have e : m.tdiv n = m / n := Int.tdiv_eq_ediv_of_nonneg h.1
 have h1 : 0 ≤ m / n := Int.ediv_nonneg h.1 (Int.le_of_lt h.2)
 have h2 : m / n ≤ m := Int.ediv_le_self n h.1
 have h3 : okI k (m / n) := by cases k <;> simp only [okI] at hm ⊢ <;> omega
 exact ⟨by rw [e]; exact int_wrap h3, h3⟩
theorem tmod_ok {k : IntKind} {m n : Int} (hm : okI k m) (h : 0 ≤ m ∧ 0 < n) : m.tmod n = m % n ∧ okI k (m % n) := by
 have e : m.tmod n = m % n := Int.tmod_eq_emod_of_nonneg h.1
 have h1 : 0 ≤ m % n := Int.emod_nonneg m (by omega)
 have h2 : m % n ≤ m := by
  have h4 := Int.mul_ediv_add_emod m n
  have h5 := Int.mul_nonneg (Int.le_of_lt h.2) (Int.ediv_nonneg h.1 (Int.le_of_lt h.2))
  omega
 have h3 : okI k (m % n) := by cases k <;> simp only [okI] at hm ⊢ <;> omega
 exact ⟨e, h3⟩

theorem fitI_ok {wr : Bool} {k : IntKind} {z : Int} (hp : (fitI wr k z).pre) : ∃ v, (fitI wr k z).outs { val := v } ∧ RepV w E st.tb (.int k (k.wrap z)) v := by
 cases wr with
 | true => exact ⟨_, rfl, RepC.int (wrap_ok _ _)⟩
 | false =>
  have h : okI k z := hp.1
  exact ⟨_, rfl, by rw [int_wrap h]; exact RepC.int h⟩
theorem binI_ok {wr : Bool} {op : BinOp} {k : IntKind} {m n : Int} (t : TypeId) (hm : okI k m) (hp : (binI wr op k m n).pre) :
  ∃ u v, (binOp op t (.int k m) (.int k n)).run P w = .ok u w ∧ (binI wr op k m n).outs { val := v } ∧ RepV w E st.tb u v := by
 cases op
 case add => obtain ⟨v, h1, h2⟩ := fitI_ok (w := w) (E := E) (st := st) hp; exact ⟨_, v, by simp [binOp, Op.intArith], h1, h2⟩
 case sub => obtain ⟨v, h1, h2⟩ := fitI_ok (w := w) (E := E) (st := st) hp; exact ⟨_, v, by simp [binOp, Op.intArith], h1, h2⟩
 case mul => obtain ⟨v, h1, h2⟩ := fitI_ok (w := w) (E := E) (st := st) hp; exact ⟨_, v, by simp [binOp, Op.intArith], h1, h2⟩
 case quo =>
  have h : 0 ≤ m ∧ 0 < n := hp.1
  have hne : n ≠ 0 := by omega
  obtain ⟨h1, h2⟩ := tdiv_ok hm h
  exact ⟨_, _, by simp [binOp, Op.intDiv, hne]; rfl, rfl, by rw [h1]; exact RepC.int h2⟩
 case rem =>
  have h : 0 ≤ m ∧ 0 < n := hp.1
  have hne : n ≠ 0 := by omega
  obtain ⟨h1, h2⟩ := tmod_ok hm h
  exact ⟨_, _, by simp [binOp, Op.intDiv, hne]; rfl, rfl, by rw [h1]; exact RepC.int h2⟩
 case and => exact ⟨_, _, by simp [binOp, Op.intBits]; rfl, ⟨wrap_ok _ _, rfl⟩, RepC.int (wrap_ok _ _)⟩
 case or => exact ⟨_, _, by simp [binOp, Op.intBits]; rfl, ⟨wrap_ok _ _, rfl⟩, RepC.int (wrap_ok _ _)⟩
 case xor => exact ⟨_, _, by simp [binOp, Op.intBits]; rfl, ⟨wrap_ok _ _, rfl⟩, RepC.int (wrap_ok _ _)⟩
 case eql => exact ⟨.bool (decide (m = n)), _, by simp [binOp, Op.intCmp]; rfl, rfl, RepC.bool⟩
 case neq => exact ⟨.bool (decide (m ≠ n)), _, by simp [binOp, Op.intCmp]; rfl, rfl, RepC.bool⟩
 case lss => exact ⟨.bool (decide (m < n)), _, by simp [binOp, Op.intCmp], rfl, RepC.bool⟩
 case leq => exact ⟨.bool (decide (m ≤ n)), _, by simp [binOp, Op.intCmp], rfl, RepC.bool⟩
 case gtr => exact ⟨.bool (decide (n < m)), _, by simp [binOp, Op.intCmp], rfl, RepC.bool⟩
 case geq => exact ⟨.bool (decide (n ≤ m)), _, by simp [binOp, Op.intCmp], rfl, RepC.bool⟩
 all_goals exact hp.elim
theorem binS_ok {op : BinOp} {m n : ByteArray} (t : TypeId) (hp : (binS op m n).pre) :
  ∃ u v, (binOp op t (.string m) (.string n)).run P w = .ok u w ∧ (binS op m n).outs { val := v } ∧ RepV w E st.tb u v := by
 have e : (m.toList == n.toList) = decide (m = n) := by
  rw [Bool.eq_iff_iff]; simp [toList_eq_iff]
 cases op
 case add =>
  have h : m.size + n.size ≤ 9223372036854775807 := hp.1
  have h2 : ¬ (((m.size + n.size : Nat) : Int) > IntKind.i64.max) := by simp [IntKind.max, IntKind.signed, IntKind.bits]; omega
  exact ⟨.string (m ++ n), _, by simp only [binOp, Op.stringOp, if_neg h2]; rfl, rfl, RepC.str (by simpa [ByteArray.size_append] using h)⟩
 case eql => exact ⟨.bool (decide (m = n)), _, by simp [binOp, Op.stringOp, e], rfl, RepC.bool⟩
 case neq => exact ⟨.bool (decide (m ≠ n)), _, by simp [binOp, Op.stringOp, e], rfl, RepC.bool⟩
 case lss => exact ⟨.bool (strLt m n), _, by simp [binOp, Op.stringOp, strLt], rfl, RepC.bool⟩
 case leq => exact ⟨.bool (strLt m n || decide (m = n)), _, by simp [binOp, Op.stringOp, strLt, e], rfl, RepC.bool⟩
 all_goals exact hp.elim
theorem isNone_list {F : Nat → Prop} {A : Option Addr} {c : Nat} {t : Ty} {l : List t.den} (h : RepC w F (.slice A l.length c) ⟨.list t, l⟩) : A.isNone = true → l = [] := by
 intro hn
 generalize hv : Value.slice _ _ _ = v at h
 generalize hc : (⟨_, _⟩ : Cell) = x at h
 cases h with
 | list g h1 h2 hA hr =>
  injection hc with e1 e2
  injection e1 with e1
  subst e1
  cases e2
  injection hv with e3 e4 e5
  subst e3
  refine Classical.byContradiction fun hne => ?_
  obtain ⟨b, off, rfl, _⟩ := hA hne
  cases hn
 | _ => cases hc
theorem nilS_ok {op : BinOp} {ty : Ty} {l : List ty.den} (t : TypeId) {A : Option Addr} {c : Nat} {F : Nat → Prop} (h : RepC w F (.slice A l.length c) ⟨.list ty, l⟩) {e : TypeId} (ht : P.underlying t = some (.slice e)) (hp : (nilS op ty l).pre) :
  ∃ u v, (binOp op t (.slice A l.length c) (.slice none 0 0)).run P w = .ok u w ∧ (nilS op ty l).outs { val := v } ∧ RepV w E st.tb u v := by
 have hn := isNone_list h
 have hq := run_equal_slice_nil (P := P) (w := w) t e A l.length c ht
 have hp' := hp A.isNone hn
 cases op
 case eql => exact ⟨.bool A.isNone, _, by simp [binOp, hq], ⟨A.isNone, hn, rfl⟩, RepC.bool⟩
 case neq => exact ⟨.bool (!A.isNone), _, by simp [binOp, hq], ⟨A.isNone, hn, rfl⟩, RepC.bool⟩
 all_goals exact hp'.elim
theorem shl_ok {k k' : IntKind} {m n : Int} (t : TypeId) (hp : (shlS k m n).pre) : ∃ u v, (binOp .shl t (.int k m) (.int k' n)).run P w = .ok u w ∧ (shlS k m n).outs { val := v } ∧ RepV w E st.tb u v := by
 obtain ⟨⟨h1, h2, h3⟩, _⟩ := hp
 have h4 : ¬ n < 0 := by omega
 have h5 : min n.toNat k.bits = n.toNat := by omega
 exact ⟨.int k (m * 2 ^ n.toNat), _, by simp [binOp, Op.shift, h4, h5, int_wrap h3], rfl, RepC.int h3⟩
theorem shr_ok {k k' : IntKind} {m n : Int} (t : TypeId) (hm : okI k m) (hp : (shrS k m n).pre) : ∃ u v, (binOp .shr t (.int k m) (.int k' n)).run P w = .ok u w ∧ (shrS k m n).outs { val := v } ∧ RepV w E st.tb u v := by
 obtain ⟨⟨h0, h1, h2⟩, _⟩ := hp
 have h4 : ¬ n < 0 := by omega
 have h5 : min n.toNat k.bits = n.toNat := by omega
 have hpos : (0 : Int) < 2 ^ n.toNat := Int.pow_pos (by decide)
 have e : m.fdiv (2 ^ n.toNat) = m / 2 ^ n.toNat := Int.fdiv_eq_ediv_of_nonneg m (Int.le_of_lt hpos)
 have h6 : 0 ≤ m / 2 ^ n.toNat := Int.ediv_nonneg h0 (Int.le_of_lt hpos)
 have h7 : m / 2 ^ n.toNat ≤ m := Int.ediv_le_self _ h0
 have h8 : okI k (m / 2 ^ n.toNat) := by cases k <;> simp only [okI] at hm ⊢ <;> omega
 exact ⟨.int k (m / 2 ^ n.toNat), _, by simp [binOp, Op.shift, h4, h5, e], rfl, RepC.int h8⟩

theorem elSR_pre {t : Ty} {l : List t.den} {k : Nat} {x : t.den} {f : List Cell → SR} (hx : l[k]? = some x) (hp : (elSR t l k f).pre) : (f (t.cells x)).pre := by
 cases t
 case hol s =>
  obtain ⟨⟨y, hy⟩, hp⟩ := hp
  rw [hx] at hy
  injection hy with hy
  subst hy
  exact hp y hx
 all_goals exact hp x hx
theorem elSR_outs {t t1 : Ty} {l : List t.den} {l1 : List t1.den} {k off : Nat} {x : t.den} {f : List Cell → SR} {e : Eff} (hx : l[k]? = some x) (hn : (t.cells x)[off]? = some ⟨.list t1, l1⟩) (ho : (f (t.cells x)).outs e) : (elSR t l k f).outs e := by
 cases t
 case hol s =>
  obtain ⟨y, b⟩ := x
  cases b with
  | true => exact ⟨y, hx, ho⟩
  | false =>
   simp only [Ty.cells, holC, List.getElem?_map, Option.map_eq_some_iff] at hn
   obtain ⟨c, _, h⟩ := hn
   exact absurd h junkC_list
 all_goals exact ⟨x, hx, ho⟩
theorem elSR0_pre {t : Ty} {l : List t.den} {k : Nat} {x : t.den} {f : List Cell → SR} (hx : l[k]? = some x) (hp : (elSR0 t l k f).pre) : (f (t.cells x)).pre := by
 cases t
 case hol s =>
  obtain ⟨⟨y, hy⟩, hp⟩ := hp
  rw [hx] at hy
  injection hy with hy
  subst hy
  exact hp y hx
 all_goals exact hp x hx
theorem elSR0_outs {t : Ty} {l : List t.den} {k : Nat} {x : t.den} {f : List Cell → SR} {e : Eff} (hx : l[k]? = some x) (hp : (elSR0 t l k f).pre) (ho : (f (t.cells x)).outs e) : (elSR0 t l k f).outs e := by
 cases t
 case hol s =>
  obtain ⟨⟨y, hy⟩, hp⟩ := hp
  rw [hx] at hy
  injection hy with hy
  subst hy
  exact ⟨y, hx, ho⟩
 all_goals exact ⟨x, hx, ho⟩
theorem ldEl_pre {t : Ty} {l : List t.den} {k : Nat} {x : t.den} {f : List Cell → SR} (hx : l[k]? = some x) (ho : Ok t x) (hp : (ldEl t l k f).pre) : (f (t.cells x)).pre := by
 cases t
 case hol s =>
  obtain ⟨⟨y, hy⟩, hp⟩ := hp
  rw [hx] at hy
  injection hy with hy
  subst hy
  exact hp y hx ho
 all_goals exact hp x hx ho
theorem ldEl_outs {t : Ty} {l : List t.den} {k : Nat} {x : t.den} {f : List Cell → SR} {e : Eff} (hx : l[k]? = some x) (ho : Ok t x) (hp : (ldEl t l k f).pre) (he : (f (t.cells x)).outs e) : (ldEl t l k f).outs e := by
 cases t
 case hol s =>
  obtain ⟨⟨y, hy⟩, hp⟩ := hp
  rw [hx] at hy
  injection hy with hy
  subst hy
  exact ⟨y, hx, ho, he⟩
 all_goals exact ⟨x, hx, ho, he⟩
theorem pathSR_pre {v v' : Value} {t t' : Ty} {l : List t.den} {l' : List t'.den} {p : List (Nat × Nat)} {f : (t : Ty) → List t.den → SR} (h : At w v t l p v' t' l') (hp : (pathSR t l p f).pre) : (f t' l').pre := by
 induction h with
 | here => exact hp
 | step hx hn hc h ih =>
  have := elSR_pre hx hp
  rw [hn] at this
  exact ih this
theorem pathSR_outs {v v' : Value} {t t' : Ty} {l : List t.den} {l' : List t'.den} {p : List (Nat × Nat)} {f : (t : Ty) → List t.den → SR} {e : Eff} (h : At w v t l p v' t' l') (ho : (f t' l').outs e) : (pathSR t l p f).outs e := by
 induction h with
 | here => exact ho
 | step hx hn hc h ih =>
  refine elSR_outs hx (by rw [← nth_eq]; exact hn) ?_
  rw [hn]
  exact ih ho
theorem eqC_ok {x y : A1} {u v : Value} {b : Bool} (hu : RepA w E st.tb u x) (hv : RepA w E st.tb v y) (he : eqC x y = some b) {t : TypeId} (d : Nat)
  (hf : fldOk P t x = true) : (isAgg t).run P w = .ok false w ∧ (Op.equalIn (d + 1) t u v).run P w = .ok b w := by
 unfold eqC at he
 split at he
 ·rename_i k m k' n
  split at he
  ·rename_i hk
   subst hk
   injection he with he
   subst he
   obtain ⟨rfl, _⟩ := int_of hu
   obtain ⟨rfl, _⟩ := int_of hv
   simp only [fldOk] at hf
   split at hf
   ·rename_i k2 ht
    exact ⟨by simp [isAgg, run_underlying ht], by rw [run_equalIn_int w d t k k2 m n ht]; exact congrArg (fun b => Result.ok b w) (by rw [Bool.eq_iff_iff]; exact beq_iff_eq.trans (decide_eq_true_iff).symm)⟩
   ·cases hf
  ·cases he
 ·rename_i m n
  injection he with he
  subst he
  obtain ⟨rfl, _⟩ := str_of hu
  obtain ⟨rfl, _⟩ := str_of hv
  simp only [fldOk] at hf
  split at hf
  ·rename_i ht
   exact ⟨by simp [isAgg, run_underlying ht], by rw [run_equalIn_string w d t m n ht]; congr 1; rw [Bool.eq_iff_iff]; simp [toList_eq_iff]⟩
  ·cases hf
 ·rename_i m n
  injection he with he
  subst he
  cases bool_of hu
  cases bool_of hv
  simp only [fldOk] at hf
  split at hf
  ·rename_i ht
   exact ⟨by simp [isAgg, run_underlying ht], by rw [run_equalIn_bool' w d t m n ht]; rfl⟩
  ·cases hf
 ·cases he
theorem eqFields_ok {xs ys : Array Value} (d : Nat) : ∀ (fs : List Field) (i : Nat) (l m : List A1) (b : Bool), (∀ j x, l[j]? = some x → ∃ u, xs[i + j]? = some u ∧ RepA w E st.tb u x) → (∀ j x, m[j]? = some x → ∃ u, ys[i + j]? = some u ∧ RepA w E st.tb u x) →
  eqL l m = some b → fldsOk P fs i l = true → (Op.eqFields (d + 1) xs ys fs).run P w = .ok b w := by
 intro fs
 induction fs with
 | nil =>
  intro i l m b hl hm he hf
  cases l with
  | nil =>
   cases m with
   | nil => simp only [eqL, Option.some.injEq] at he; subst he; rfl
   | cons => cases he
  | cons => cases hf
 | cons f fs ih =>
  intro i l m b hl hm he hf
  cases l with
  | nil => cases hf
  | cons x l =>
   cases m with
   | nil => cases he
   | cons y m =>
    simp only [fldsOk, Bool.and_eq_true, decide_eq_true_eq] at hf
    obtain ⟨⟨⟨hn, ho⟩, hfo⟩, hr⟩ := hf
    have ho := (beq_iff _ _).1 ho
    simp only [eqL] at he
    split at he
    ·rename_i p q hp hq
     injection he with he
     subst he
     obtain ⟨u, hu, hux⟩ := hl 0 x rfl
     obtain ⟨v, hv, hvy⟩ := hm 0 y rfl
     obtain ⟨ha, hb⟩ := eqC_ok (P := P) hux hvy hp d hfo
     have hrest := ih (i + 1) l m q (fun j x hj => by have := hl (j + 1) x (by simpa using hj); rwa [Nat.add_assoc, Nat.add_comm 1 j]) (fun j x hj => by have := hm (j + 1) x (by simpa using hj); rwa [Nat.add_assoc, Nat.add_comm 1 j]) hq hr
     have hpx : (part f.type xs f.offset).run P w = .ok u w := by simp [part, ha, ho]; rw [show xs[i]? = some u from by simpa using hu]; rfl
     have hpy : (part f.type ys f.offset).run P w = .ok v w := by simp [part, ha, ho]; rw [show ys[i]? = some v from by simpa using hv]; rfl
     simp only [Op.eqFields, if_pos hn, Sem.run_bind, hpx, hpy, hb, Result.andThen_ok]
     cases p with
     | true => simpa using hrest
     | false => simp
    ·cases he
theorem vo_bin (h : Sat W0 E0 nl N st E a w) {op : BinOp} {t t' : TypeId} {x y : Operand} (ho : o.op = .binOp op t x y t') (hp : (step P Γ base o st).pre) : ValOk P E st a w o (step P Γ base o st) := by
 simp only [step, ho, opt_pre] at hp
 obtain ⟨x', hx, y', hy, hp⟩ := hp
 have hx' := h.ev hx
 have hy' := h.ev hy
 suffices hs : ∃ u v, (eqGuard op t x y (a.eval x) (a.eval y)).run P w = .ok () w ∧ (binOp op t (a.eval x) (a.eval y)).run P w = .ok u w ∧ (binA P Γ.wr st.tb op t x' y').outs { val := v } ∧ RepV w E st.tb u v by
  obtain ⟨u, v, h1, h2, h3, h4⟩ := hs
  exact ⟨u, v, run_bin ho h1 h2, by simp only [step, ho, opt_outs]; exact ⟨_, hx, _, hy, h3⟩, h4⟩
 generalize a.eval x = p at *
 generalize a.eval y = q at *
 unfold binA at hp ⊢
 split at hp
 ·rename_i k m k' n
  obtain ⟨rfl, hm⟩ := int_of hx'
  obtain ⟨rfl, hn⟩ := int_of hy'
  suffices hs : ∃ u v, (binOp op t (.int k m) (.int k' n)).run P w = .ok u w ∧ (binA P Γ.wr st.tb op t (.one (.c ⟨.int k, m⟩)) (.one (.c ⟨.int k', n⟩))).outs { val := v } ∧ RepV w E st.tb u v by
   obtain ⟨u, v, h2, h3, h4⟩ := hs
   exact ⟨u, v, run_eqGuard_int, h2, h3, h4⟩
  simp only [binA]
  split at hp
  ·rename_i hk
   subst hk
   simp only [if_true]
   cases op
   case shl => exact shl_ok t hp
   case shr => exact shr_ok t hm hp
   all_goals exact binI_ok t hm hp
  ·rename_i hk
   simp only [if_neg hk]
   cases op
   case shl => exact shl_ok t hp
   case shr => exact shr_ok t hm hp
   all_goals exact hp.elim
 ·rename_i m n
  obtain ⟨rfl, hm⟩ := str_of hx'
  obtain ⟨rfl, hn⟩ := str_of hy'
  obtain ⟨u, v, h2, h3, h4⟩ := binS_ok (P := P) (w := w) (E := E) (st := st) t hp
  exact ⟨u, v, run_eqGuard_str, h2, h3, h4⟩
 ·rename_i m n
  cases bool_of hx'
  cases bool_of hy'
  obtain ⟨hb, hp⟩ := bif_bad.1 hp
  have ht : P.underlying t = some .bool := by
   unfold isBool at hb
   split at hb
   ·assumption
   ·cases hb
  refine (fun ⟨u, v, h2, h3, h4⟩ => ⟨u, v, run_eqGuard_bool, h2, h3, h4⟩ : (∃ u v, (binOp op t (.bool m) (.bool n)).run P w = .ok u w ∧ _ ∧ RepV w E st.tb u v) → _) ?_
  rw [hb]
  simp only [cond_true]
  cases op
  case eql => exact ⟨.bool (decide (m = n)), _, by rw [run_eql_bool w t m n ht]; rfl, rfl, RepC.bool⟩
  case neq => exact ⟨.bool (decide (m ≠ n)), _, by rw [run_neq_bool w t m n ht]; congr 2; rw [Bool.eq_iff_iff]; simp, rfl, RepC.bool⟩
  all_goals exact hp.elim
 ·rename_i ty l
  obtain ⟨A, c, rfl, _⟩ := list_of hx'
  cases (show q = .slice none 0 0 from hy')
  obtain ⟨hb, hp⟩ := bif_bad.1 hp
  have ht : ∃ e, P.underlying t = some (.slice e) := by
   unfold isSlice at hb
   split at hb
   ·exact ⟨_, by assumption⟩
   ·cases hb
  obtain ⟨e, ht⟩ := ht
  obtain ⟨u, v, h2, h3, h4⟩ := nilS_ok (P := P) (w := w) (E := E) (st := st) t hx' ht hp
  exact ⟨u, v, run_eqGuard_slice, h2, by rw [hb]; exact h3, h4⟩
 ·rename_i id pp
  cases (show q = .slice none 0 0 from hy')
  obtain ⟨hb, hp⟩ := bif_bad.1 hp
  have ht : ∃ e, P.underlying t = some (.slice e) := by
   unfold isSlice at hb
   split at hb
   ·exact ⟨_, by assumption⟩
   ·cases hb
  obtain ⟨e, ht⟩ := ht
  split at hp
  ·rename_i e1 ty l d hl
   obtain ⟨t2, l2, hat⟩ := hx'.2 e1 ty l d hl
   have hr := (h.blks id _ hl : RowOk _ _ _ _ _ _ _ _).rep
   have hr2 := RepC.at_ hat hr
   have hp2 := pathSR_pre hat hp
   obtain ⟨A, c, rfl, _⟩ := list_of hr2
   obtain ⟨u, v, h2, h3, h4⟩ := nilS_ok (P := P) (w := w) (E := E) (st := st) t hr2 ht hp2
   exact ⟨u, v, run_eqGuard_slice, h2, by rw [hb]; exact pathSR_outs hat h3, h4⟩
  ·exact hp.elim
 ·rename_i l m
  obtain ⟨xs, rfl, hxs⟩ := hx'
  obtain ⟨ys, rfl, hys⟩ := hy'
  obtain ⟨hb, hp⟩ := bif_bad.1 hp
  have hb' := hb
  unfold structOk at hb
  split at hb
  ·rename_i fs ht
   simp only [Bool.and_eq_true, Bool.not_eq_true'] at hb
   obtain ⟨⟨hf, hst⟩, hg⟩ := hb
   have ht' : P.underlying t = some (.struct (P.fieldsOf t)) := by simp [Program.fieldsOf, ht]
   have hfs : P.fieldsOf t = fs := by simp [Program.fieldsOf, ht]
   split at hp
   ·rename_i b hq _
    refine ⟨.bool b, .one (.c (cb b)), run_eqGuard_agg w _ t x y xs ys hg, ?_, by rw [hb']; rfl, RepC.bool⟩
    rw [run_eql_struct, run_equalIn_agg w 9999 t xs ys ht' hst, hfs, eqFields_ok (P := P) (w := w) (E := E) (st := st) 9998 fs.toList 0 l m b (fun j x hj => by obtain ⟨u, h1, _, h2⟩ := hxs.2 j x hj; exact ⟨u, by simpa using h1, h2⟩) (fun j x hj => by obtain ⟨u, h1, _, h2⟩ := hys.2 j x hj; exact ⟨u, by simpa using h1, h2⟩) hq hf]
    rfl
   ·rename_i b hq _
    refine ⟨.bool (!b), .one (.c (cb (!b))), run_eqGuard_agg w _ t x y xs ys hg, ?_, by rw [hb']; rfl, RepC.bool⟩
    rw [run_neq_struct, run_equalIn_agg w 9999 t xs ys ht' hst, hfs, eqFields_ok (P := P) (w := w) (E := E) (st := st) 9998 fs.toList 0 l m b (fun j x hj => by obtain ⟨u, h1, _, h2⟩ := hxs.2 j x hj; exact ⟨u, by simpa using h1, h2⟩) (fun j x hj => by obtain ⟨u, h1, _, h2⟩ := hys.2 j x hj; exact ⟨u, by simpa using h1, h2⟩) hq hf]
    rfl
   ·exact hp.elim
  ·cases hb
 ·exact hp.elim
end
end Go.Proofs.YtpgglbnagphgoaaGreat
/- Operations that only compute, one by one: memory that is read. -/
namespace Go.Proofs.YtpgglbnagphgoaaGreat
open Go.RowKit
open SR (opt)

theorem add_eq (b off j : Nat) : (⟨b, off, none⟩ : Addr).add j = ⟨b, off + j, none⟩ := by
 unfold Addr.add; split <;> simp_all
theorem cut_get {α : Type} {l m : List α} {o n : Nat} (h : cut l o n = some m) : m.length = n ∧ o + n ≤ l.length ∧ ∀ i, i < n → m[i]? = l[o + i]? := by
 induction l generalizing o n m with
 | nil =>
  cases o with
  | zero => cases n with
   | zero => simp only [cut, Option.some.injEq] at h; subst h; exact ⟨rfl, by simp, fun i hi => absurd hi (by omega)⟩
   | succ n => cases h
  | succ o => cases h
 | cons x l ih =>
  cases o with
  | zero => cases n with
   | zero => simp only [cut, Option.some.injEq] at h; subst h; exact ⟨rfl, by simp, fun i hi => absurd hi (by omega)⟩
   | succ n =>
    simp only [cut, Option.map_eq_some_iff] at h
    obtain ⟨m', h1, rfl⟩ := h
    obtain ⟨h2, h3, h4⟩ := ih h1
    refine ⟨by simp [h2], by simp at h3 ⊢; omega, fun i hi => ?_⟩
    cases i with
    | zero => simp
    | succ i => simpa using h4 i (by omega)
  | succ o =>
   simp only [cut] at h
   obtain ⟨h2, h3, h4⟩ := ih h
   refine ⟨h2, by simp at h3 ⊢; omega, fun i hi => ?_⟩
   rw [h4 i hi, show o + 1 + i = (o + i) + 1 from by omega]
   simp
theorem ovr_get {α : Type} {l m bs : List α} {o : Nat} (h : ovr l o bs = some m) : m.length = l.length ∧ o + bs.length ≤ l.length ∧ ∀ i, m[i]? = if o ≤ i ∧ i < o + bs.length then bs[i - o]? else l[i]? := by
 induction l generalizing o bs m with
 | nil =>
  cases o with
  | zero => cases bs with
   | nil => simp only [ovr, Option.some.injEq] at h; subst h; exact ⟨rfl, by simp, fun i => by simp⟩
   | cons b bs => cases h
  | succ o => cases h
 | cons x l ih =>
  cases o with
  | zero => cases bs with
   | nil => simp only [ovr, Option.some.injEq] at h; subst h; exact ⟨rfl, by simp, fun i => by simp⟩
   | cons b bs =>
    simp only [ovr, Option.map_eq_some_iff] at h
    obtain ⟨m', h1, rfl⟩ := h
    obtain ⟨h2, h3, h4⟩ := ih h1
    refine ⟨by simp [h2], by simp at h3 ⊢; omega, fun i => ?_⟩
    cases i with
    | zero => simp
    | succ i =>
     have := h4 i
     simp only [List.getElem?_cons_succ, List.length_cons, Nat.zero_le, true_and, Nat.sub_zero, Nat.zero_add] at this ⊢
     rw [this]
     by_cases hi : i < bs.length <;> simp [hi]
  | succ o =>
   simp only [ovr, Option.map_eq_some_iff] at h
   obtain ⟨m', h1, rfl⟩ := h
   obtain ⟨h2, h3, h4⟩ := ih h1
   refine ⟨by simp [h2], by simp at h3 ⊢; omega, fun i => ?_⟩
   cases i with
   | zero => simp
   | succ i =>
    have := h4 i
    simp only [List.getElem?_cons_succ] at this ⊢
    rw [this]
    by_cases hi : o ≤ i ∧ i < o + bs.length
    ·rw [if_pos hi, if_pos (by omega)]
     congr 1
     omega
    ·rw [if_neg hi, if_neg (by omega)]

section
variable {P : Program} {Γ : Cfg} {W0 w : World} {E0 E : Env} {nl N base : Nat} {st : ASt} {a : Act} {o : Oper} {tb : Tb}

theorem tinfo_some {t : TypeId} {n : Nat} {ag : Bool} (h : tinfo P t = some (n, ag)) : ∃ i d, P.info? t = some i ∧ P.underlying t = some d ∧ i.size = n ∧ (match d with | .struct _ | .array _ _ => true | _ => false) = ag := by
 unfold tinfo at h
 split at h
 ·rename_i i d h1 h2
  simp only [Option.some.injEq, Prod.mk.injEq] at h
  exact ⟨i, d, h1, h2, h.1, h.2⟩
 ·cases h
theorem load_ok {t : TypeId} {n b off : Nat} {ag : Bool} (ht : tinfo P t = some (n, ag)) {us : List Value} {l : List A1} (hl : l.length = n) (hu : us.length = n)
  (hc : ∀ (j : Nat) (u : Value), us[j]? = some u → w.cell? ⟨b, off + j, none⟩ = some u) (hr : ∀ (j : Nat) (x : A1) (u : Value), l[j]? = some x → us[j]? = some u → u.oneCell' = true ∧ RepA w E tb u x) {v : AV} (hv : avOf ag l = some v) :
  ∃ u, (Instr.loadAt t (.pointer (some ⟨b, off, none⟩))).run P w = .ok u w ∧ RepV w E tb u v := by
 obtain ⟨i, d, hi, hd, hs, hag⟩ := tinfo_some ht
 have hagg : (isAgg t).run P w = .ok ag w := by
  unfold isAgg
  rw [Sem.run_bind, run_underlying hd]
  subst hag
  cases d <;> rfl
 cases ag with
 | true =>
  simp only [avOf, cond_true, Option.some.injEq] at hv
  subst hv
  have hlc := run_loadCells_list (P := P) w ⟨b, off, none⟩ us (fun j u hj => by rw [add_eq]; exact hc j u hj)
  refine ⟨.agg us.toArray, ?_, us.toArray, rfl, by simp [hl, hu], fun j x hj => ?_⟩
  ·simp [Instr.loadAt, Instr.sureAddr, loadVar, hagg, sizeOf, typeInfo, hi, hs]
   rw [← hu, hlc]
   rfl
  ·have hjn : j < n := by rw [← hl]; exact (List.getElem?_eq_some_iff.1 hj).1
   obtain ⟨u, hu'⟩ : ∃ u, us[j]? = some u := ⟨us[j]'(by omega), List.getElem?_eq_getElem _⟩
   obtain ⟨h1, h2⟩ := hr j x u hj hu'
   exact ⟨u, by simpa using hu', h1, h2⟩
 | false =>
  unfold avOf at hv
  simp only [cond_false] at hv
  split at hv
  ·rename_i x
   injection hv with hv
   subst hv
   have h1 : us.length = 1 := by rw [hu, ← hl]; rfl
   obtain ⟨u, rfl⟩ : ∃ u, us = [u] := by
    cases us with
    | nil => cases h1
    | cons u us => cases us with
     | nil => exact ⟨u, rfl⟩
     | cons => simp at h1
   have hcell := hc 0 u rfl
   refine ⟨u, ?_, (hr 0 x u rfl rfl).2⟩
   rw [Nat.add_zero] at hcell
   simp [Instr.loadAt, Instr.sureAddr, loadVar, hagg, run_load, hcell]
  ·cases hv
theorem OkL_iff (l : List Cell) : OkL l ↔ ∀ c ∈ l, OkC c := by
 induction l with
 | nil => simp [OkL]
 | cons c l ih =>
  cases l with
  | nil => simp [OkL]
  | cons d l => simp only [OkL, ih]; simp
theorem rep_elem {G : Nat → Prop} {b o' n c k j : Nat} {t : Ty} {l : List t.den} {x : t.den} {u : Cell} (h : RepC w G (.slice (some ⟨b, o', none⟩) n c) ⟨.list t, l⟩) (hx : l[k]? = some x) (hu : (t.cells x)[j]? = some u) :
  ∃ v, w.cell? ⟨b, o' + (k * t.wd + j), none⟩ = some v ∧ RepC w G v u := by
 generalize hv : Value.slice _ _ _ = v0 at h
 generalize hc : (⟨_, _⟩ : Cell) = c0 at h
 cases h with
 | list g h1 h2 hA hr =>
  injection hc with e1 e2
  injection e1 with e1
  subst e1
  cases e2
  injection hv with e3 e4 e5
  obtain ⟨b', off, e, _, _, hcell⟩ := hA (by rintro rfl; simp at hx)
  rw [← e3] at e
  injection e with e
  injection e with e6 e7
  subst e6 e7
  exact ⟨_, hcell k x j u hx hu, hr k x j u hx hu⟩
 | _ => cases hc
theorem RowOk.elem0 {F B : Nat → Prop} {e : Option TypeId} {b o' n c k j : Nat} {t : Ty} {l : List t.den} {x : t.den} {u : Cell} (h : RowOk w F B e (.slice (some ⟨b, o', none⟩) n c) t l false) (hx : l[k]? = some x) (hu : (t.cells x)[j]? = some u) :
  ∃ v, w.cell? ⟨b, o' + (k * t.wd + j), none⟩ = some v ∧ RepC w F v u := by
 rcases h with ⟨h, _⟩ | ⟨b', c', e0, cur, g, S, hv, hB, hh, _, hs, hc, hm, hg, hS, hd, hr⟩
 ·cases h
 ·injection hv with e1 _ _
  injection e1 with e1
  injection e1 with e1 e2
  subst e1 e2
  refine ⟨g k j, ?_, by simpa using hr k x j u hx hu⟩
  rw [cell_of_row w b _ cur e0 (0, 0) hh, Nat.zero_add]
  exact hg k x j u hx hu
theorem At.elem {F B : Nat → Prop} {e : Option TypeId} {hv : Value} {b o' n c k j : Nat} {t t' : Ty} {l : List t.den} {l' : List t'.den} {p : List (Nat × Nat)} {x : t'.den} {u : Cell} {d : Bool} (h : RowOk w F B e hv t l d)
  (hat : At w hv t l p (.slice (some ⟨b, o', none⟩) n c) t' l') (hx : l'[k]? = some x) (hu : (t'.cells x)[j]? = some u) :
  ∃ v, w.cell? ⟨b, o' + (k * t'.wd + j), none⟩ = some v ∧ RepC w (fun b => F b ∨ B b) v u ∧ (d = false → RepC w F v u) := by
 obtain ⟨v, h1, h2⟩ := rep_elem (RepC.at_ hat h.rep) hx hu
 refine ⟨v, h1, h2, fun hd => ?_⟩
 subst hd
 generalize hq : Value.slice _ _ _ = q at hat
 cases hat with
 | here =>
  subst hq
  obtain ⟨v', h3, h4⟩ := h.elem0 hx hu
  rw [h1] at h3
  injection h3 with h3
  rw [h3]
  exact h4
 | step hx0 hn0 hc0 hat =>
  subst hq
  rw [nth_eq] at hn0
  obtain ⟨v', h3, h4⟩ := h.elem0 hx0 hn0
  rw [hc0] at h3
  injection h3 with h3
  subst h3
  obtain ⟨v', h5, h6⟩ := rep_elem (RepC.at_ hat h4) hx hu
  rw [h1] at h5
  injection h5 with h5
  rw [h5]
  exact h6
theorem At.snoc {hv v : Value} {b o' n c k off : Nat} {t t' t1 : Ty} {l : List t.den} {l' : List t'.den} {l1 : List t1.den} {p : List (Nat × Nat)} {x : t'.den} (hat : At w hv t l p (.slice (some ⟨b, o', none⟩) n c) t' l') (hx : l'[k]? = some x)
  (hn : nth (t'.cells x) off = some ⟨.list t1, l1⟩) (hc : w.cell? ⟨b, o' + (k * t'.wd + off), none⟩ = some v) : At w hv t l (p ++ [(k, off)]) v t1 l1 := by
 generalize hq : Value.slice _ _ _ = q at hat
 induction hat with
 | here =>
  subst hq
  exact .step hx hn hc .here
 | step hx0 hn0 hc0 _ ih => exact .step hx0 hn0 hc0 (ih hx hn hc hq)
theorem RepC.scalar {G F : Nat → Prop} {v : Value} {c : Cell} (h : RepC w G v c) (hc : ∀ t l, c ≠ ⟨.list t, l⟩) : RepC w F v c := by
 cases h with
 | int h => exact .int h
 | bool => exact .bool
 | str h => exact .str h
 | junk h => exact .junk h
 | list => exact absurd rfl (hc _ _)
theorem asA1_get (id : Nat) (p : List (Nat × Nat)) (k : Nat) (d : Bool) (off : Nat) (l : List Cell) (j : Nat) : (asA1 id p k d off l)[j]? = (l[j]?).map fun c => (match c with
  | ⟨.list t, x⟩ => bif d then A1.sl id (p ++ [(k, off + j)]) else A1.c ⟨.list t, x⟩
  | c => .c c) := by
 induction l generalizing off j with
 | nil => simp [asA1]
 | cons c l ih =>
  cases j with
  | zero => simp only [asA1, List.getElem?_cons_zero, Option.map_some, Nat.add_zero]; try rfl
  | succ j =>
   simp only [asA1, List.getElem?_cons_succ]
   rw [ih, show off + 1 + j = off + (j + 1) from by omega]
theorem asA1_len (id : Nat) (p : List (Nat × Nat)) (k : Nat) (d : Bool) (off : Nat) (l : List Cell) : (asA1 id p k d off l).length = l.length := by
 induction l generalizing off with
 | nil => rfl
 | cons c l ih => simp [asA1, ih]

theorem run_loadOp {t : TypeId} {x : Operand} (ho : o.op = .load t x) {u v : Value} (hx : a.eval x = v) (h : (Instr.loadAt t v).run P w = .ok u w) : (execOp a.eval o).run P w = .ok (.value u) w := by
 simp [execOp, ho, hx, h]
theorem vo_load (h : Sat W0 E0 nl N st E a w) {t : TypeId} {x : Operand} (ho : o.op = .load t x) (hp : (loadSR P st t x).pre) : ValOk P E st a w o (loadSR P st t x) := by
 simp only [loadSR, opt_pre] at hp
 obtain ⟨⟨n, ag⟩, ht, x', hx, hp⟩ := hp
 have hx' := h.ev1 hx
 suffices hs : ∃ u v, (Instr.loadAt t (a.eval x)).run P w = .ok u w ∧ (loadSR P st t x).outs { val := v } ∧ RepV w E st.tb u v by
  obtain ⟨u, v, h1, h2, h3⟩ := hs
  exact ⟨u, v, run_loadOp ho rfl h1, h2, h3⟩
 simp only [loadSR, opt_outs]
 cases x' with
 | ref id off =>
  simp only at hp
  split at hp
  ·rename_i f vs hl
   simp only [opt_pre] at hp
   obtain ⟨l, hc, v, hv, _⟩ := hp
   obtain ⟨cur, T, hh, _, hrl, _⟩ := h.blks id _ hl
   have hpt := hx'.2 f vs hl
   obtain ⟨c1, c2, c3⟩ := cut_get hc
   have hsz := hrl.1
   obtain ⟨u, h1, h2⟩ := load_ok (P := P) (w := w) (E := E) (tb := st.tb) (b := E.hd id) (off := off) ht (us := (cur.toList.drop off).take n) c1 (by simp; omega) (fun j u hj => by
     rw [List.getElem?_take] at hj
     split at hj
     ·rw [cell_of_row w _ _ cur T (0, 0) hh]; simpa using hj
     ·cases hj) (fun j x u hj hu => by
     rw [List.getElem?_take] at hu
     split at hu
     ·rename_i hjn
      rw [c3 j hjn] at hj
      obtain ⟨u', h1, h2, h3⟩ := hrl.2 _ _ hj
      have : u' = u := by
       have hu' : cur[off + j]? = some u := by simpa using hu
       rw [hu'] at h1
       injection h1 with h1
       exact h1.symm
      subst this
      exact ⟨h2, h3⟩
     ·cases hu) hv
   rw [hpt]
   refine ⟨u, v, h1, ⟨_, ht, _, hx, ?_⟩, h2⟩
   simp only [hl, opt_outs]
   exact ⟨l, hc, v, hv, rfl⟩
  ·exact hp.elim
 | roe ty l k off =>
  obtain ⟨b, o', g, hpt, hF, hk, hc⟩ := hx'
  obtain ⟨x0, hx0⟩ : ∃ x, l[k]? = some x := ⟨l[k], List.getElem?_eq_getElem hk⟩
  have hok : Ok ty x0 := (OkL_iff _).2 fun c hc' => by
   obtain ⟨j, hj⟩ := List.mem_iff_getElem?.1 hc'
   exact (hc k x0 j c hx0 hj).2.okC
  have hp' := hp x0 hx0 hok
  simp only [opt_pre] at hp'
  obtain ⟨lc, hcut, v, hv, _⟩ := hp'
  obtain ⟨c1, c2, c3⟩ := cut_get hcut
  obtain ⟨u, h1, h2⟩ := load_ok (P := P) (w := w) (E := E) (tb := st.tb) (b := b) (off := o' + (k * ty.wd + off)) ht (us := (List.range n).map fun j => g k (off + j)) (l := lc.map .c) (by simp [c1]) (by simp) (fun j u hj => by
    simp only [List.getElem?_map, Option.map_eq_some_iff] at hj
    obtain ⟨i, hi, rfl⟩ := hj
    obtain ⟨hi1, hi2⟩ := List.getElem?_eq_some_iff.1 hi
    simp at hi1 hi2
    subst hi2
    obtain ⟨cj, hcj⟩ : ∃ cj, (ty.cells x0)[off + j]? = some cj := ⟨_, List.getElem?_eq_getElem (by omega)⟩
    rw [show o' + (k * ty.wd + off) + j = o' + (k * ty.wd + (off + j)) from by omega]
    exact (hc k x0 (off + j) cj hx0 hcj).1) (fun j x u hj hu => by
    simp only [List.getElem?_map, Option.map_eq_some_iff] at hj hu
    obtain ⟨cj, hcj, rfl⟩ := hj
    obtain ⟨i, hi, rfl⟩ := hu
    obtain ⟨hi1, hi2⟩ := List.getElem?_eq_some_iff.1 hi
    simp at hi1 hi2
    subst hi2
    rw [c3 j hi1] at hcj
    have := (hc k x0 _ cj hx0 hcj).2
    exact ⟨this.one, this⟩) hv
  rw [hpt]
  exact ⟨u, v, h1, ⟨_, ht, _, hx, x0, hx0, hok, (opt_outs _ _ _).2 ⟨lc, hcut, (opt_outs _ _ _).2 ⟨v, hv, rfl⟩⟩⟩, h2⟩
 | ptr id p k off =>
  simp only at hp
  split at hp
  ·rename_i e ty l d hl
   obtain ⟨b, o', nn, c, t', l', hat, hk, hpt⟩ := hx'.2 e ty l d hl
   have hrow := (h.blks id _ hl : RowOk _ _ _ _ _ _ _ _)
   have hp' := pathSR_pre hat hp
   obtain ⟨x0, hx0⟩ : ∃ x, l'[k]? = some x := ⟨l'[k], List.getElem?_eq_getElem hk⟩
   have hel := fun j u => At.elem (j := j) (u := u) hrow hat hx0
   have hok : Ok t' x0 := (OkL_iff _).2 fun c hc' => by
    obtain ⟨j, hj⟩ := List.mem_iff_getElem?.1 hc'
    obtain ⟨v, _, h2, _⟩ := hel j c hj
    exact h2.okC
   have hp'' := ldEl_pre hx0 hok hp'
   simp only [opt_pre] at hp''
   obtain ⟨lc, hcut, v, hv, _⟩ := hp''
   obtain ⟨c1, c2, c3⟩ := cut_get hcut
   have hex : ∀ j, j < n → ∃ val, w.cell? ⟨b, o' + (k * t'.wd + (off + j)), none⟩ = some val := fun j hj => by
    obtain ⟨val, h1, _⟩ := hel (off + j) _ (List.getElem?_eq_getElem (by omega))
    exact ⟨val, h1⟩
   obtain ⟨us, hus, huc⟩ : ∃ us : List Value, us.length = n ∧ ∀ j u, us[j]? = some u → w.cell? ⟨b, o' + (k * t'.wd + (off + j)), none⟩ = some u := by
    refine ⟨(List.range n).map fun j => (w.cell? ⟨b, o' + (k * t'.wd + (off + j)), none⟩).getD undef, by simp, fun j u hj => ?_⟩
    simp only [List.getElem?_map, Option.map_eq_some_iff] at hj
    obtain ⟨i, hi, rfl⟩ := hj
    obtain ⟨hi1, hi2⟩ := List.getElem?_eq_some_iff.1 hi
    simp at hi1 hi2
    subst hi2
    obtain ⟨val, hval⟩ := hex j hi1
    rw [hval]
    rfl
   obtain ⟨u, h1, h2⟩ := load_ok (P := P) (w := w) (E := E) (tb := st.tb) (b := b) (off := o' + (k * t'.wd + off)) ht (us := us) (l := asA1 id p k d off lc) (by rw [asA1_len, c1]) hus (fun j u hj => by
     rw [show o' + (k * t'.wd + off) + j = o' + (k * t'.wd + (off + j)) from by omega]; exact huc j u hj) (fun j x u hj hu => by
     rw [asA1_get] at hj
     simp only [Option.map_eq_some_iff] at hj
     obtain ⟨cj, hcj, rfl⟩ := hj
     have hjn : j < n := by rw [← c1]; exact (List.getElem?_eq_some_iff.1 hcj).1
     rw [c3 j hjn] at hcj
     obtain ⟨val, g1, g2, g3⟩ := hel (off + j) cj hcj
     have : val = u := by
      have := huc j u hu
      rw [g1] at this
      injection this
     subst this
     refine ⟨g2.one, ?_⟩
     obtain ⟨tc, xc⟩ := cj
     cases tc with
     | list t1 =>
      cases d with
      | true =>
       refine ⟨g2.one, fun e' t0 l0 d0 hl0 => ?_⟩
       rw [hl] at hl0
       injection hl0 with hl0
       injection hl0 with q1 q2 q3 q4
       subst q2
       cases q3
       exact ⟨t1, xc, hat.snoc hx0 (by rw [nth_eq]; exact hcj) g1⟩
      | false => exact g3 rfl
     | _ => exact g2.scalar (fun _ _ h => by cases h)) hv
   rw [hpt]
   refine ⟨u, v, h1, ⟨_, ht, _, hx, ?_⟩, h2⟩
   simp only [hl]
   exact pathSR_outs hat (ldEl_outs hx0 hok hp' ((opt_outs _ _ _).2 ⟨lc, hcut, (opt_outs _ _ _).2 ⟨v, hv, rfl⟩⟩))
  ·exact hp.elim
 | _ => exact hp.elim
end
end Go.Proofs.YtpgglbnagphgoaaGreat
/- Operations that only compute, one by one: addresses, parts, lengths. -/
namespace Go.Proofs.YtpgglbnagphgoaaGreat
open Go.RowKit
open SR (opt)

section
variable {P : Program} {Γ : Cfg} {W0 w : World} {E0 E : Env} {nl N base : Nat} {st : ASt} {a : Act} {o : Oper} {tb : Tb}

theorem vo_nilCheck (h : Sat W0 E0 nl N st E a w) {x : Operand} (ho : o.op = .nilCheck x) (hp : (step P Γ base o st).pre) : ValOk P E st a w o (step P Γ base o st) := by
 simp only [step, ho, opt_pre] at hp
 obtain ⟨x', hx, hp⟩ := hp
 have hx' := h.ev1 hx
 cases x' with
 | ref id off =>
  simp only at hp
  split at hp
  ·rename_i f vs hb
   have e : step P Γ base o st = v1 (.ref id off) := by simp [step, ho, opt, hx, hb]
   have := hx'.2 f vs hb
   rw [e]
   exact ⟨a.eval x, _, by simp [execOp, ho, this], rfl, hx'⟩
  ·exact hp.elim
 | _ => exact hp.elim

theorem fieldOf_some {s : TypeId} {f off : Nat} {ft : TypeId} (h : fieldOf P s f = some (off, ft)) : ∃ fs fl, P.underlying s = some (.struct fs) ∧ fs[f]? = some fl ∧ fl.offset = off ∧ fl.type = ft := by
 unfold fieldOf at h
 split at h
 ·rename_i fs hs
  simp only [Option.map_eq_some_iff, Prod.mk.injEq] at h
  obtain ⟨fl, h1, h2, h3⟩ := h
  exact ⟨fs, fl, hs, h1, h2, h3⟩
 ·cases h
theorem run_fieldAt {s : TypeId} {f off n : Nat} {ft : TypeId} (h : fieldOf P s f = some (off, ft)) (hn : sizeT P ft = some n) (h0 : n ≠ 0) (b o' : Nat) : (Instr.fieldAt s (.pointer (some ⟨b, o', none⟩)) f).run P w = .ok (.pointer (some ⟨b, o' + off, none⟩)) w := by
 obtain ⟨fs, fl, h1, h2, rfl, rfl⟩ := fieldOf_some h
 unfold sizeT at hn
 simp only [Option.map_eq_some_iff] at hn
 obtain ⟨i, hi, rfl⟩ := hn
 simp [Instr.fieldAt, run_underlying h1, h2, Instr.sureAddr, fieldPlace, sizeOf, typeInfo, hi, h0, add_eq]
theorem vo_fieldAddr (h : Sat W0 E0 nl N st E a w) {s : TypeId} {x : Operand} {f : Nat}
  (ho : o.op = .fieldAddr s x f) (hp : (step P Γ base o st).pre) : ValOk P E st a w o (step P Γ base o st) := by
 simp only [step, ho, opt_pre] at hp
 obtain ⟨⟨off, ft⟩, hf, n, hn, hp⟩ := hp
 have h0 : n ≠ 0 := by
  rintro rfl
  exact hp.elim
 have hb0 := beq_no.2 h0
 rw [hb0] at hp
 simp only [cond_false, opt_pre] at hp
 obtain ⟨x', hx, hp⟩ := hp
 have hx' := h.ev1 hx
 have hrun : ∀ b o', a.eval x = .pointer (some ⟨b, o', none⟩) → (execOp a.eval o).run P w = .ok (.value (.pointer (some ⟨b, o' + off, none⟩))) w := fun b o' he => by
  simp [execOp, ho, he, run_fieldAt hf hn h0]
 cases x' with
 | ref id o1 =>
  simp only at hp
  split at hp
  ·rename_i g vs hb
   have e : step P Γ base o st = v1 (.ref id (o1 + off)) := by simp [step, ho, opt, hf, hn, hb0, hx, hb]
   rw [e]
   refine ⟨_, _, hrun _ _ (hx'.2 g vs hb), rfl, rfl, fun g' vs' hb' => ?_⟩
   rfl
  ·exact hp.elim
 | roe ty l k o1 =>
  obtain ⟨b, o', g, hpt, hF, hk, hc⟩ := hx'
  have e : step P Γ base o st = v1 (.roe ty l k (o1 + off)) := by simp [step, ho, opt, hf, hn, hb0, hx]
  rw [e]
  exact ⟨_, _, hrun _ _ hpt, rfl, b, o', g, by rw [Nat.add_assoc, Nat.add_assoc], hF, hk, hc⟩
 | ptr id p k o1 =>
  simp only at hp
  split at hp
  ·rename_i e1 ty l d hb
   have e : step P Γ base o st = v1 (.ptr id p k (o1 + off)) := by simp [step, ho, opt, hf, hn, hb0, hx, hb]
   obtain ⟨b, o', n', c, t', l', hat, hk, hpt⟩ := hx'.2 e1 ty l d hb
   rw [e]
   refine ⟨_, _, hrun _ _ hpt, rfl, rfl, fun e2 ty2 l2 d2 hb2 => ?_⟩
   rw [hb] at hb2
   injection hb2 with hb2
   injection hb2 with q1 q2 q3 q4
   subst q2
   cases q3
   exact ⟨b, o', n', c, t', l', hat, hk, by rw [Nat.add_assoc, Nat.add_assoc]⟩
  ·exact hp.elim
 | _ => exact hp.elim

theorem part_ok {t : TypeId} {n off : Nat} {ag : Bool} {arr : Array Value} {l m : List A1} {v : AV} (ht : tinfo P t = some (n, ag)) (hr : RepL w E tb arr l) (hc : cut l off n = some m) (hv : avOf ag m = some v) :
  ∃ u, (part t arr off).run P w = .ok u w ∧ RepV w E tb u v := by
 obtain ⟨i, d, hi, hd, hs, hag⟩ := tinfo_some ht
 have hagg : (isAgg t).run P w = .ok ag w := by
  unfold isAgg
  rw [Sem.run_bind, run_underlying hd]
  subst hag
  cases d <;> rfl
 obtain ⟨c1, c2, c3⟩ := cut_get hc
 have hsz := hr.1
 cases ag with
 | true =>
  simp only [avOf, cond_true, Option.some.injEq] at hv
  subst hv
  refine ⟨.agg (arr.extract off (off + n)), by simp [part, hagg, sizeOf, typeInfo, hi, hs], _, rfl, by simp [c1]; omega, fun j x hj => ?_⟩
  have hjn : j < n := by rw [← c1]; exact (List.getElem?_eq_some_iff.1 hj).1
  rw [c3 j hjn] at hj
  obtain ⟨u, h1, h2, h3⟩ := hr.2 _ _ hj
  exact ⟨u, by rw [Array.getElem?_extract, if_pos (by omega)]; exact h1, h2, h3⟩
 | false =>
  unfold avOf at hv
  simp only [cond_false] at hv
  split at hv
  ·rename_i x
   injection hv with hv
   subst hv
   have hn1 : n = 1 := by rw [← c1]; rfl
   have := c3 0 (by omega)
   obtain ⟨u, h1, h2, h3⟩ := hr.2 off x (by simpa using this.symm)
   exact ⟨u, by simp only [part, Sem.run_bind, hagg, Result.andThen_ok, Bool.false_eq_true, if_false, h1]; rfl, h3⟩
  ·cases hv
theorem vo_field (h : Sat W0 E0 nl N st E a w) {s : TypeId} {x : Operand} {f : Nat} (ho : o.op = .field s x f) (hp : (step P Γ base o st).pre) : ValOk P E st a w o (step P Γ base o st) := by
 simp only [step, ho, opt_pre] at hp
 obtain ⟨⟨off, ft⟩, hf, ⟨n, ag⟩, ht, hp⟩ := hp
 split at hp
 ·rename_i l hx
  simp only [opt_pre] at hp
  obtain ⟨m, hc, v, hv, _⟩ := hp
  obtain ⟨arr, he, hr⟩ := h.ev hx
  obtain ⟨fs, fl, h1, h2, rfl, rfl⟩ := fieldOf_some hf
  obtain ⟨u, h3, h4⟩ := part_ok (P := P) ht hr hc hv
  have e : step P Γ base o st = .ret { val := v } := by simp [step, ho, opt, hf, ht, hx, hc, hv]
  rw [e]
  exact ⟨u, v, by simp [execOp, ho, he, Instr.field, run_underlying h1, h2, asAgg, h3], rfl, h4⟩
 ·exact hp.elim
theorem compOf_ok {u : Value} {c : Bool × List A1} {v : AV} (hc : compOf c = some v) (h : RepT w E tb u c) : RepV w E tb u v := by
 unfold compOf at hc
 split at hc
 ·injection hc with hc; subst hc; exact h
 ·rename_i x
  injection hc with hc
  subst hc
  obtain ⟨y, hy, hu⟩ := h
  injection hy with hy
  subst hy
  exact hu
 ·cases hc
theorem vo_extract (h : Sat W0 E0 nl N st E a w) {x : Operand} {i : Nat} (ho : o.op = .extract x i) (hp : (step P Γ base o st).pre) : ValOk P E st a w o (step P Γ base o st) := by
 simp only [step, ho] at hp
 split at hp
 ·rename_i l hx
  simp only [opt_pre, bind_some_iff] at hp
  obtain ⟨v, ⟨c, hn, hc⟩, _⟩ := hp
  rw [nth_eq] at hn
  obtain ⟨arr, he, hs, hr⟩ := h.ev hx
  obtain ⟨u, h1, h2⟩ := hr i c hn
  have e : step P Γ base o st = .ret { val := v } := by simp [step, ho, opt, hx, nth_eq, hn, hc]
  rw [e]
  exact ⟨u, v, by simp [execOp, ho, he, Instr.extract, h1], rfl, compOf_ok hc h2⟩
 ·exact hp.elim

theorem listOf_ok (h : Sat W0 E0 nl N st E a w) {x : A1} {u : Value} (hx : RepA w E st.tb u x) {f : (t : Ty) → List t.den → SR} (hp : (listOf st.tb x f).pre) :
  ∃ (t : Ty) (l : List t.den) (A : Option Addr) (c : Nat) (G : Nat → Prop), u = .slice A l.length c ∧ RepC w G u ⟨.list t, l⟩ ∧ (f t l).pre ∧ (∀ e, (f t l).outs e → (listOf st.tb x f).outs e) ∧
   ∀ b, G b → Fz w E st.tb b ∨ ∃ i, i ∈ rows1 x ∧ (lk st.tb i).isSome = true ∧ E.bs i b := by
 unfold listOf at hp
 split at hp
 ·rename_i t l
  have hx' : RepC w (Fz w E st.tb) u ⟨.list t, l⟩ := hx
  obtain ⟨A, c, e, _⟩ := list_of hx'
  exact ⟨t, l, A, c, _, e, hx', hp, (fun e he => he), fun b hb => .inl hb⟩
 ·rename_i id p
  split at hp
  ·rename_i e t l d hl
   obtain ⟨t', l', hat⟩ := hx.2 e t l d hl
   have hr := RepC.at_ hat (h.blks id _ hl : RowOk _ _ _ _ _ _ _ _).rep
   obtain ⟨A, c, e1, _⟩ := list_of hr
   exact ⟨t', l', A, c, _, e1, hr, pathSR_pre hat hp, (fun e he => by simp only [listOf, hl]; exact pathSR_outs hat he), fun b hb => hb.imp_right fun hb => ⟨id, by simp [rows1], by rw [hl]; rfl, hb⟩⟩
  ·exact hp.elim
 ·rename_i id lo n
  split at hp
  ·rename_i e t l d hl
   obtain ⟨A, c, e1, hn, hc, hlo, hA⟩ := hx.2 e t l d hl
   have hlen : ((l.drop lo).take n).length = n := by simp; omega
   refine ⟨t, (l.drop lo).take n, A, c, fun b => Fz w E st.tb b ∨ E.bs id b, by rw [hlen]; exact e1, ?_, hp, (fun e he => by simp only [listOf, hl]; exact he), fun b hb => hb.imp_right fun hb => ⟨id, by simp [rows1], by rw [hl]; rfl, hb⟩⟩
   have hr := (h.blks id _ hl : RowOk _ _ _ _ _ _ _ _).rep
   rw [e1]
   suffices key : RepC w (fun b => Fz w E st.tb b ∨ E.bs id b) (.slice A ((l.drop lo).take n).length c) ⟨.list t, (l.drop lo).take n⟩ by rwa [hlen] at key
   have hpos : (l.drop lo).take n ≠ [] → 0 < n := fun hne => by
    rcases Nat.eq_zero_or_pos n with rfl | h0
    ·simp at hne
    ·exact h0
   have hget : ∀ (i : Nat) (x : t.den), ((l.drop lo).take n)[i]? = some x → l[lo + i]? = some x := fun i x hi => by
    rw [List.getElem?_take] at hi
    split at hi
    ·rwa [List.getElem?_drop] at hi
    ·cases hi
   rcases Nat.eq_zero_or_pos n with rfl | h0
   ·have : (l.drop lo).take 0 = [] := by simp
    rw [this]
    exact .list (fun _ _ => default) (by omega) hc (fun h => absurd rfl h) (fun i x j u hx => by simp at hx)
   ·obtain ⟨b, cap, hv, rfl⟩ := hA h0
    rw [hv] at hr
    generalize hq : Value.slice _ _ _ = q at hr
    generalize hz : (⟨_, _⟩ : Cell) = z at hr
    cases hr with
    | list g h1 h2 hA hr =>
     injection hz with z1 z2
     injection z1 with z1
     subst z1
     cases z2
     injection hq with q1 q2 q3
     refine .list (fun i j => g (lo + i) j) (by omega) hc (fun hne => ?_) (fun i x j u hx hu => hr (lo + i) x j u (hget i x hx) hu)
     obtain ⟨b', off, e2, hF, hlt, hcell⟩ := hA (by rintro rfl; simp at hne)
     rw [← q1] at e2
     injection e2 with e2
     injection e2 with e3 e4
     subst e3 e4
     refine ⟨b, lo * t.wd, rfl, hF, hlt, fun i x j u hx hu => ?_⟩
     have := hcell (lo + i) x j u (hget i x hx) hu
     rw [← this]
     congr 2
     rw [Nat.add_mul]; omega
    | _ => cases hz
  ·exact hp.elim
 ·exact hp.elim
end
end Go.Proofs.YtpgglbnagphgoaaGreat
/- Operations that only compute, one by one: indices, parts of lists and texts, builtins. -/
namespace Go.Proofs.YtpgglbnagphgoaaGreat
open Go.RowKit
open SR (opt)

section
variable {P : Program} {Γ : Cfg} {W0 w : World} {E0 E : Env} {nl N base : Nat} {st : ASt} {a : Act} {o : Oper} {tb : Tb}

theorem evL_nil {l : List Operand} (h : evL st l = some []) : l = [] := by
 cases l with
 | nil => rfl
 | cons x l => simp only [evL] at h; split at h <;> simp at h
theorem evL_cons {l : List Operand} {v : AV} {vs : List AV} (h : evL st l = some (v :: vs)) : ∃ x m, l = x :: m ∧ st.ev x = some v ∧ evL st m = some vs := by
 cases l with
 | nil => simp [evL] at h
 | cons x l =>
  simp only [evL] at h
  split at h
  ·rename_i u m h1 h2
   simp only [Option.some.injEq, List.cons.injEq] at h
   obtain ⟨rfl, rfl⟩ := h
   exact ⟨x, l, rfl, h1, h2⟩
  ·cases h
theorem run_builtin {c : Call} {b : Builtin} (ho : o.op = .call c) (hc : c.callee = .builtin b) : (execOp a.eval o).run P w = (builtin b c.argTypes o.type (c.args.map fun | .const _ => true | _ => false) (c.args.map a.eval)).run P w := by
 simp [execOp, ho, resolve, hc, invoke]
 rfl
theorem sliceOf_some {t e : TypeId} (h : sliceOf P t = some e) : P.underlying t = some (.slice e) := by
 unfold sliceOf at h
 split at h
 ·injection h with h; subst h; assumption
 ·cases h
theorem sizeT_some {t : TypeId} {n : Nat} (h : sizeT P t = some n) : ∃ i, P.info? t = some i ∧ i.size = n := by
 unfold sizeT at h
 simpa only [Option.map_eq_some_iff] using h

theorem lenS_ok {n : Nat} (hn : n ≤ 9223372036854775807) : (lenS n).outs { val := .one (.c (ci n)) } ∧ RepV w E tb (.int .i64 n) (.one (.c (ci n))) :=
 ⟨⟨hn, rfl⟩, RepC.int (by simp only [okI]; omega)⟩
theorem vo_len (h : Sat W0 E0 nl N st E a w) {c : Call} (ho : o.op = .call c) (hc : c.callee = .builtin .len) (hp : (step P Γ base o st).pre) : ValOk P E st a w o (step P Γ base o st) := by
 simp only [step, ho, opt_pre, hc] at hp
 obtain ⟨args, hargs, hp⟩ := hp
 split at hp
 ·rename_i t x ht
  obtain ⟨x', m, hl, hx, hm⟩ := evL_cons hargs
  have := evL_nil hm
  subst this
  have hargs' : c.args = #[x'] := by rw [← Array.toArray_toList (xs := c.args), hl]
  have htys : c.argTypes = #[t] := by rw [← Array.toArray_toList (xs := c.argTypes), ht]
  have hx' : RepA w E st.tb (a.eval x') x := h.ev hx
  have hrun : ∀ v, (Builtin.len_ #[t] o.type #[a.eval x']).run P w = .ok v w → (execOp a.eval o).run P w = .ok (.value v) w := fun v hv => by
   rw [run_builtin ho hc, hargs', htys]
   simp [builtin, hv]
  split at hp
  ·rename_i s hu
   obtain ⟨he, hs⟩ := str_of hx'
   have e : step P Γ base o st = lenS s.size := by simp [step, ho, opt, hc, hargs, ht, hu]
   rw [e]
   exact ⟨_, _, hrun _ (by simp [Builtin.len_, run_underlying hu, he]; rfl), lenS_ok hs⟩
  ·rename_i et hu
   have he : a.eval x' = .slice none 0 0 := hx'
   have e : step P Γ base o st = lenS 0 := by simp [step, ho, opt, hc, hargs, ht, hu]
   rw [e]
   exact ⟨_, _, hrun _ (by simp [Builtin.len_, run_underlying hu, he]; rfl), lenS_ok (by omega)⟩
  ·rename_i y _ _ et hu hnil
   obtain ⟨ty, l, A, cp, G, he, hr, _, hout, _⟩ := listOf_ok h hx' hp
   have e : step P Γ base o st = listOf st.tb y fun _ l => lenS l.length := by
    simp only [step, ho, opt, hc, hargs, ht, hu]

   rw [e]
   have hlen : l.length ≤ 9223372036854775807 := hr.okC
   obtain ⟨h1, h2⟩ := lenS_ok (w := w) (E := E) (tb := st.tb) hlen
   exact ⟨_, _, hrun _ (by simp [Builtin.len_, run_underlying hu, he]; rfl), hout _ h1, h2⟩
  ·exact hp.elim
 ·exact hp.elim

theorem str_get {s : ByteArray} {i : Nat} (h : i < s.size) : s[i]? = some s[i] := by simp [h]
theorem vo_index (h : Sat W0 E0 nl N st E a w) {t : TypeId} {x i : Operand} (ho : o.op = .index t x i) (hp : (step P Γ base o st).pre) : ValOk P E st a w o (step P Γ base o st) := by
 simp only [step, ho, opt_pre] at hp
 obtain ⟨x', hx, i', hi, hp⟩ := hp
 have hx' := h.ev1 hx
 have hi' := h.ev1 hi
 split at hp
 ·rename_i s k n ht
  obtain ⟨h1, h2⟩ := str_of hx'
  obtain ⟨h3, h4⟩ := int_of hi'
  obtain ⟨⟨h5, h6⟩, _⟩ := hp
  have hlt : n.toNat < s.size := by omega
  have hb : 0 ≤ strAt s n.toNat ∧ strAt s n.toNat ≤ 255 := by
   unfold strAt
   have := (s.data.toList.getD n.toNat 0).toNat_lt
   omega
  have e : step P Γ base o st = idxS n s.size (.giv (0 ≤ strAt s n.toNat ∧ strAt s n.toNat ≤ 255) (vc .u (strAt s n.toNat))) := by simp only [step, ho, opt, hx, hi, ht]
  rw [e]
  refine ⟨.int .u8 (strAt s n.toNat), _, ?_, ⟨hb, rfl⟩, RepC.int hb⟩
  have hget : s[n.toNat]? = some s[n.toNat] := str_get hlt
  have hd : ((s[n.toNat]).toNat : Int) = strAt s n.toNat := by
   unfold strAt
   have : s.data.toList[n.toNat]? = some s[n.toNat] := by
    rw [Array.getElem?_toList]
    exact Array.getElem?_eq_getElem hlt
   rw [List.getD_eq_getElem?_getD, this]
   rfl
  simp [execOp, ho, h1, h3, Instr.index, asIntOf, run_underlying ht, h5, hget, hd]
 ·exact hp.elim

theorem run_indexAt {t e : TypeId} {size b off n c : Nat} {k : IntKind} {i : Int} (ht : sliceOf P t = some e) (hs : sizeT P e = some size) (hi : 0 ≤ i ∧ i < n) :
  (Instr.indexAt t (.slice (some ⟨b, off, none⟩) n c) (.int k i)).run P w = .ok (.pointer (some ⟨b, off + i.toNat * size, none⟩)) w := by
 obtain ⟨j, hj, rfl⟩ := sizeT_some hs
 simp [Instr.indexAt, asIntOf, run_underlying (sliceOf_some ht), sizeOf, typeInfo, hj, hi.1, hi.2, add_eq]
theorem vo_indexAddr (h : Sat W0 E0 nl N st E a w) {t : TypeId} {x i : Operand} (ho : o.op = .indexAddr t x i) (hp : (step P Γ base o st).pre) : ValOk P E st a w o (step P Γ base o st) := by
 simp only [step, ho, opt_pre] at hp
 obtain ⟨et, ht, size, hs, x', hx, i', hi, hp⟩ := hp
 have hx' := h.ev1 hx
 have hi' := h.ev1 hi
 split at hp
 ·rename_i k n
  obtain ⟨h3, h4⟩ := int_of hi'
  split at hp
  ·rename_i ty l
   obtain ⟨hwd, hp⟩ := bif_bad.1 hp
   obtain ⟨hn, _⟩ := hp
   have hsz := (beq_iff _ _).1 hwd
   have hr : RepC w (Fz w E st.tb) (a.eval x) ⟨.list ty, l⟩ := hx'
   have e : step P Γ base o st = idxS n l.length (v1 (.roe ty l n.toNat 0)) := by simp [step, ho, opt, ht, hs, hx, hi, hsz]
   rw [e]
   have hlt : n.toNat < l.length := by omega
   generalize hq : a.eval x = q at hr
   generalize hz : (⟨_, _⟩ : Cell) = z at hr
   cases hr with
   | list g h1 h2 hA hr =>
    injection hz with z1 z2
    injection z1 with z1
    subst z1
    cases z2
    obtain ⟨b, off, rfl, hF, hb, hcell⟩ := hA (by rintro rfl; simp at hlt)
    refine ⟨_, _, by simp [execOp, ho, hq, h3, run_indexAt ht hs hn]; rfl, rfl, b, off, g, by rw [hsz]; rfl, hF, hlt, fun i x j u hx hu => ⟨hcell i x j u hx hu, hr i x j u hx hu⟩⟩
   | _ => cases hz
  ·rename_i id p
   split at hp
   ·rename_i e1 ty l d hl
    obtain ⟨t', l', hat⟩ := hx'.2 e1 ty l d hl
    have hrow := (h.blks id _ hl : RowOk _ _ _ _ _ _ _ _)
    have hr := RepC.at_ hat hrow.rep
    obtain ⟨hwd, hp⟩ := bif_bad.1 (pathSR_pre hat hp)
    obtain ⟨hn, _⟩ := hp
    have hsz := (beq_iff _ _).1 hwd
    have hlt : n.toNat < l'.length := by omega
    have e : step P Γ base o st = pathSR ty l p fun ty l => bif Nat.beq size ty.wd then idxS n l.length (v1 (.ptr id p n.toNat 0)) else .bad := by simp only [step, ho, opt, ht, hs, hx, hi, hl]
    have hex : ∃ b off c, a.eval x = .slice (some ⟨b, off, none⟩) l'.length c := by
     generalize hq : a.eval x = q at hr
     generalize hz : (⟨_, _⟩ : Cell) = z at hr
     cases hr with
     | list g h1 h2 hA hr =>
      injection hz with z1 z2
      injection z1 with z1
      subst z1
      cases z2
      obtain ⟨b, off, rfl, _⟩ := hA (by rintro rfl; simp at hlt)
      exact ⟨b, off, _, rfl⟩
     | _ => cases hz
    obtain ⟨b, off, c, hev⟩ := hex
    rw [e]
    rw [hev] at hat
    refine ⟨.pointer (some ⟨b, off + n.toNat * size, none⟩), .one (.ptr id p n.toNat 0), by simp [execOp, ho, hev, h3, run_indexAt ht hs hn], pathSR_outs hat (by rw [hwd]; rfl), ⟨rfl, fun e2 ty2 l2 d2 hb2 => ?_⟩⟩
    rw [hl] at hb2
    injection hb2 with hb2
    injection hb2 with q1 q2 q3 q4
    subst q2
    cases q3
    exact ⟨b, off, _, c, t', l', hat, hlt, by rw [hsz]; rfl⟩
   ·exact hp.elim
  ·exact hp.elim
 ·exact hp.elim

theorem imax (m n : Int) : (if n > m then n else m) = max m n := by rw [Int.max_def]; split <;> split <;> omega
theorem imin (m n : Int) : (if n < m then n else m) = min m n := by rw [Int.min_def]; split <;> split <;> omega
theorem vo_max (h : Sat W0 E0 nl N st E a w) {c : Call} (ho : o.op = .call c) (hc : c.callee = .builtin .max) (hp : (step P Γ base o st).pre) : ValOk P E st a w o (step P Γ base o st) := by
 simp only [step, ho, opt_pre, hc] at hp
 obtain ⟨args, hargs, hp⟩ := hp
 split at hp
 ·rename_i m n
  obtain ⟨x, l1, hl, hx, hm⟩ := evL_cons hargs
  obtain ⟨y, l2, rfl, hy, hm2⟩ := evL_cons hm
  have := evL_nil hm2
  subst this
  have hargs' : c.args = #[x, y] := by rw [← Array.toArray_toList (xs := c.args), hl]
  obtain ⟨h1, h2⟩ := int_of (h.ev hx)
  obtain ⟨h3, h4⟩ := int_of (h.ev hy)
  have e : step P Γ base o st = vc .i (max m n) := by simp [step, ho, opt, hc, hargs]
  rw [e]
  have hmax := imax m n
  refine ⟨.int .i64 (max m n), _, ?_, rfl, RepC.int (by rw [← imax m n]; split <;> assumption)⟩
  rw [run_builtin ho hc, hargs']
  simp [builtin, Builtin.max_, Builtin.max2, h1, h3, hmax]
 ·exact hp.elim
theorem vo_min (h : Sat W0 E0 nl N st E a w) {c : Call} (ho : o.op = .call c) (hc : c.callee = .builtin .min) (hp : (step P Γ base o st).pre) : ValOk P E st a w o (step P Γ base o st) := by
 simp only [step, ho, opt_pre, hc] at hp
 obtain ⟨args, hargs, hp⟩ := hp
 split at hp
 ·rename_i m n
  obtain ⟨x, l1, hl, hx, hm⟩ := evL_cons hargs
  obtain ⟨y, l2, rfl, hy, hm2⟩ := evL_cons hm
  have := evL_nil hm2
  subst this
  have hargs' : c.args = #[x, y] := by rw [← Array.toArray_toList (xs := c.args), hl]
  obtain ⟨h1, h2⟩ := int_of (h.ev hx)
  obtain ⟨h3, h4⟩ := int_of (h.ev hy)
  have e : step P Γ base o st = vc .i (min m n) := by simp [step, ho, opt, hc, hargs]
  rw [e]
  have hmin := imin m n
  refine ⟨.int .i64 (min m n), _, ?_, rfl, RepC.int (by rw [← imin m n]; split <;> assumption)⟩
  rw [run_builtin ho hc, hargs']
  simp [builtin, Builtin.min_, Builtin.min2, h1, h3, hmin]
 ·exact hp.elim
theorem refs_ok (h : Sat W0 E0 nl N st E a w) {l : List Operand} {vs : List AV} {ids : List Nat} (hl : evL st l = some vs) (hr : refs vs = some ids) : l.length = ids.length ∧ ∀ (i id : Nat), ids[i]? = some id → ∃ x, l[i]? = some x ∧ (a.eval x).oneCell' = true ∧ refOk E st.tb (a.eval x) id 0 := by
 induction vs generalizing l ids with
 | nil =>
  have := evL_nil hl
  subst this
  simp only [refs, Option.some.injEq] at hr
  subst hr
  exact ⟨rfl, fun i id hi => by simp at hi⟩
 | cons v vs ih =>
  obtain ⟨x, m, rfl, hx, hm⟩ := evL_cons hl
  unfold refs at hr
  split at hr
  ·rename_i heq; cases heq
  ·rename_i id0 l0 heq
   injection heq with e1 e2
   subst e1 e2
   simp only [Option.map_eq_some_iff] at hr
   obtain ⟨ids', h1, rfl⟩ := hr
   obtain ⟨h2, h3⟩ := ih hm h1
   refine ⟨by simp [h2], fun i id hi => ?_⟩
   cases i with
   | zero =>
    simp only [List.getElem?_cons_zero, Option.some.injEq] at hi
    subst hi
    exact ⟨x, rfl, h.ev hx⟩
   | succ i => simpa using h3 i id (by simpa using hi)
  ·cases hr
theorem vo_makeFunc (h : Sat W0 E0 nl N st E a w) {f : FuncId} {first captured : Array Operand} (ho : o.op = .makeFunc (.func f) first captured) (hp : (step P Γ base o st).pre) : ValOk P E st a w o (step P Γ base o st) := by
 simp only [step, ho] at hp
 obtain ⟨hf, hp⟩ := bif_bad.1 hp
 simp only [opt_pre, bind_some_iff] at hp
 obtain ⟨ids, ⟨vs, h1, h2⟩, _⟩ := hp
 have hf0 : first = #[] := by simpa using (beq_iff _ _).1 hf
 subst hf0
 have e : step P Γ base o st = v1 (.fn f ids) := by simp [step, ho, opt, h1, h2]
 rw [e]
 obtain ⟨h3, h4⟩ := refs_ok h h1 h2
 refine ⟨.func (.func f) #[] (captured.map a.eval), _, by simp [execOp, ho, Instr.makeFunc], rfl, _, rfl, by simpa using h3, fun i id hi => ?_⟩
 obtain ⟨x, h5, h6⟩ := h4 i id hi
 exact ⟨a.eval x, by simp at h5; simp [h5], h6⟩
end
end Go.Proofs.YtpgglbnagphgoaaGreat
/- Operations that only compute, one by one: parts of lists and texts, conversions, structs. -/
namespace Go.Proofs.YtpgglbnagphgoaaGreat
open Go.RowKit
open SR (opt)

section
variable {P : Program} {Γ : Cfg} {W0 w : World} {E0 E : Env} {nl N base : Nat} {st : ASt} {a : Act} {o : Oper} {tb : Tb}

theorem le_cap {m : Int} {n cap : Nat} (h : m ≤ n) (hc : n ≤ cap) : m ≤ cap := by omega
theorem le_toNat {m m' : Int} (h : m ≤ m') : m ≤ ((m'.toNat : Nat) : Int) := by omega
theorem boundS_ok (h : Sat W0 E0 nl N st E a w) {lo hi : Option Operand} {lo' hi' : Option A1} {n cap : Nat} {f : Nat → Nat → SR} (isS : Bool) (hlo : evO st lo = some lo') (hhi : evO st hi = some hi') (hc : n ≤ cap) (hp : (boundS n lo' hi' f).pre) :
  ∃ p q, p ≤ q ∧ q ≤ n ∧ (f p q).pre ∧ (∀ e, (f p q).outs e → (boundS n lo' hi' f).outs e) ∧ (Instr.sliceBounds isS n cap (lo.map a.eval) (hi.map a.eval) none).run P w = .ok (p, q, cap) w := by
 have hev : ∀ (y : Option Operand) y', evO st y = some y' → (y = none ∧ y' = none) ∨ ∃ x v, y = some x ∧ y' = some v ∧ RepA w E st.tb (a.eval x) v := fun y y' hy => by
  cases y with
  | none => simp only [evO, Option.some.injEq] at hy; exact .inl ⟨rfl, hy.symm⟩
  | some x =>
   simp only [evO, Option.map_eq_some_iff] at hy
   obtain ⟨v, h1, rfl⟩ := hy
   exact .inr ⟨x, v, rfl, rfl, h.ev1 h1⟩
 have hint : ∀ (z : A1), (∀ k m, z ≠ .c ⟨.int k, m⟩) → ∀ lo, boundS n lo (some z) f = .bad ∧ boundS n (some z) lo f = .bad := fun z hz lo => by
  cases z with
  | c y =>
   obtain ⟨t, m⟩ := y
   cases t with
   | int k => exact absurd rfl (hz k m)
   | _ =>
    cases lo with
    | none => exact ⟨rfl, rfl⟩
    | some y => cases y with
     | c q => obtain ⟨t, m⟩ := q; cases t <;> exact ⟨rfl, rfl⟩
     | _ => exact ⟨rfl, rfl⟩
  | _ =>
   cases lo with
   | none => exact ⟨rfl, rfl⟩
   | some y => cases y with
    | c q => obtain ⟨t, m⟩ := q; cases t <;> exact ⟨rfl, rfl⟩
    | _ => exact ⟨rfl, rfl⟩
 have hi2 : ∀ (z : A1) lo, (boundS n lo (some z) f).pre → ∃ k m, z = .c ⟨.int k, m⟩ := fun z lo hz => Classical.byContradiction fun hne => by
  rw [(hint z (fun k m e => hne ⟨k, m, e⟩) lo).1] at hz; exact hz
 have hi1 : ∀ (z : A1) lo, (boundS n (some z) lo f).pre → ∃ k m, z = .c ⟨.int k, m⟩ := fun z lo hz => Classical.byContradiction fun hne => by
  rw [(hint z (fun k m e => hne ⟨k, m, e⟩) lo).2] at hz; exact hz
 rcases hev lo lo' hlo with ⟨rfl, rfl⟩ | ⟨x, v, rfl, rfl, hx⟩ <;> rcases hev hi hi' hhi with ⟨rfl, rfl⟩ | ⟨y, u, rfl, rfl, hy⟩
 ·exact ⟨0, n, by omega, by omega, hp, fun e he => he, by simp [Instr.sliceBounds]⟩
 ·obtain ⟨k, m, rfl⟩ := hi2 u _ hp
  obtain ⟨h1, _⟩ := int_of hy
  have hp' : (bound1 n m fun b => f 0 b).pre := hp
  obtain ⟨⟨h3, h4⟩, hp'⟩ := hp'
  refine ⟨0, Int.toNat m, by omega, by omega, hp', fun e he => he, ?_⟩
  have h5 := le_cap h4 hc
  simp [Instr.sliceBounds, Instr.sliceBound, h1, asIntOf, h3, h5]
 ·obtain ⟨k, m, rfl⟩ := hi1 v _ hp
  obtain ⟨h1, _⟩ := int_of hx
  have hp' : (bound1 n m fun b => f b n).pre := hp
  obtain ⟨⟨h3, h4⟩, hp'⟩ := hp'
  refine ⟨Int.toNat m, n, by omega, by omega, hp', fun e he => he, ?_⟩
  simp [Instr.sliceBounds, Instr.sliceBound, h1, asIntOf, h3, h4]
 ·obtain ⟨k, m, rfl⟩ := hi1 v _ hp
  obtain ⟨k', m', rfl⟩ := hi2 u _ hp
  obtain ⟨h1, _⟩ := int_of hx
  obtain ⟨h2, _⟩ := int_of hy
  have hp' : (bound2 n m m' f).pre := hp
  obtain ⟨⟨h3, h4, h6⟩, hp'⟩ := hp'
  refine ⟨Int.toNat m, Int.toNat m', by omega, by omega, hp', fun e he => he, ?_⟩
  have h5 := le_cap h6 hc
  have h7 := Int.le_trans h3 h4
  have h8 := le_toNat h4
  simp only [Instr.sliceBounds, Option.map_some, Instr.sliceBound, h1, h2, asIntOf, Sem.run_bind, Sem.run_pure, Result.andThen_ok, if_pos (And.intro h7 h5), if_pos (And.intro h3 h8)]

theorem run_sliceOp {t : TypeId} {x : Operand} {lo hi : Option Operand} (ho : o.op = .slice t x lo hi none) {u : Value} (h : (Instr.sliceAt t (a.eval x) (lo.map a.eval) (hi.map a.eval) none).run P w = .ok u w) : (execOp a.eval o).run P w = .ok (.value u) w := by
 simp [execOp, ho, h]
theorem run_sliceStr {t : TypeId} {s : ByteArray} {lo hi : Option Value} {p q cap : Nat} (ht : P.underlying t = some .string) (h : (Instr.sliceBounds false s.size s.size lo hi none).run P w = .ok (p, q, cap) w) :
  (Instr.sliceAt t (.string s) lo hi none).run P w = .ok (.string (s.extract p q)) w := by
 simp [Instr.sliceAt, run_underlying ht, Instr.slice, h]
theorem run_sliceSl {t e : TypeId} {A : Option Addr} {n cap size : Nat} {lo hi : Option Value} {p q : Nat} (ht : P.underlying t = some (.slice e)) (hs : sizeT P e = some size) (h : (Instr.sliceBounds true n cap lo hi none).run P w = .ok (p, q, cap) w) :
  (Instr.sliceAt t (.slice A n cap) lo hi none).run P w = .ok (.slice (if cap = p then A else A.map (·.add (p * size))) (q - p) (cap - p)) w := by
 obtain ⟨i, hi, rfl⟩ := sizeT_some hs
 simp [Instr.sliceAt, run_underlying ht, Instr.slice, h, sizeOf, typeInfo, hi]
theorem rep_part {G : Nat → Prop} {A : Option Addr} {cap p q : Nat} {t : Ty} {l : List t.den} (h : RepC w G (.slice A l.length cap) ⟨.list t, l⟩) (hpq : p ≤ q) (hq : q ≤ l.length) :
  RepC w G (.slice (if cap = p then A else A.map (·.add (p * t.wd))) (q - p) (cap - p)) ⟨.list t, (l.drop p).take (q - p)⟩ := by
 have hlen : ((l.drop p).take (q - p)).length = q - p := by simp; omega
 suffices key : ∀ A', ((l.drop p).take (q - p) ≠ [] → A' = A.map (·.add (p * t.wd))) → RepC w G (.slice A' ((l.drop p).take (q - p)).length (cap - p)) ⟨.list t, (l.drop p).take (q - p)⟩ by
  rw [hlen] at key
  refine key _ fun hne => ?_
  have hcap : l.length ≤ cap := by
   obtain ⟨A', c', e, h1, _⟩ := list_of h
   injection e with _ _ e3
   omega
  rw [if_neg]
  rintro rfl
  apply hne
  rw [show q - cap = 0 from by omega]
  simp
 intro A' hA'
 have hget : ∀ (i : Nat) (x : t.den), ((l.drop p).take (q - p))[i]? = some x → l[p + i]? = some x := fun i x hi => by
  rw [List.getElem?_take] at hi
  split at hi
  ·rwa [List.getElem?_drop] at hi
  ·cases hi
 generalize hqv : Value.slice A l.length cap = v at h
 generalize hz : (⟨_, _⟩ : Cell) = z at h
 cases h with
 | list g h1 h2 hA hr =>
  injection hz with z1 z2
  injection z1 with z1
  subst z1
  cases z2
  injection hqv with q1 q2 q3
  subst q1 q3
  refine .list (fun i j => g (p + i) j) (by rw [hlen]; omega) (by omega) (fun hne => ?_) (fun i x j u hx hu => hr (p + i) x j u (hget i x hx) hu)
  obtain ⟨b, off, e2, hF, hlt, hcell⟩ := hA (by rintro rfl; simp at hne)
  rw [hA' hne, e2]
  refine ⟨b, off + p * t.wd, by simp [add_eq], hF, hlt, fun i x j u hx hu => ?_⟩
  have := hcell (p + i) x j u (hget i x hx) hu
  rw [← this]
  congr 2
  rw [Nat.add_mul]; omega
 | _ => cases hz

theorem vo_slice (h : Sat W0 E0 nl N st E a w) {t : TypeId} {x : Operand} {lo hi : Option Operand} (ho : o.op = .slice t x lo hi none) (hp : (step P Γ base o st).pre) : ValOk P E st a w o (step P Γ base o st) := by
 simp only [step, ho, opt_pre] at hp
 obtain ⟨x', hx, lo', hlo, hi', hhi, hp⟩ := hp
 have hx' := h.ev1 hx
 split at hp
 ·rename_i s ht
  obtain ⟨he, hs⟩ := str_of hx'
  obtain ⟨p, q, h1, h2, _, hout, hrun⟩ := boundS_ok (P := P) h false hlo hhi (Nat.le_refl s.size) hp
  have e : step P Γ base o st = boundS s.size lo' hi' fun a b => vc .str (s.extract a b) := by simp only [step, ho, opt, hx, hlo, hhi, ht]
  rw [e]
  refine ⟨_, _, run_sliceOp ho (by rw [he]; exact run_sliceStr ht hrun), hout _ rfl, RepC.str ?_⟩
  have := ByteArray.size_extract (b := q) (e := q) (a := s)
  have h3 : (s.extract p q).size = min q s.size - p := ByteArray.size_extract
  rw [h3]; omega
 ·rename_i e1 ty l ht
  obtain ⟨hsz, hp⟩ := bif_bad.1 hp
  have hsz : sizeT P e1 = some ty.wd := by simpa using hsz
  obtain ⟨A, cap, he, hc, hm⟩ := list_of (show RepC w (Fz w E st.tb) (a.eval x) ⟨.list ty, l⟩ from hx')
  obtain ⟨p, q, h1, h2, _, hout, hrun⟩ := boundS_ok (P := P) h true hlo hhi hc hp
  have e : step P Γ base o st = boundS l.length lo' hi' fun a b => vc (.list ty) ((l.drop a).take (b - a)) := by simp only [step, ho, opt, hx, hlo, hhi, ht, hsz]; simp
  rw [e]
  have hr : RepC w (Fz w E st.tb) (.slice A l.length cap) ⟨.list ty, l⟩ := by rw [← he]; exact hx'
  exact ⟨_, _, run_sliceOp ho (by rw [he]; exact run_sliceSl ht hsz hrun), hout _ rfl, rep_part hr h1 h2⟩
 ·rename_i e1 id ht
  split at hp
  ·rename_i e2 ty l d hl
   obtain ⟨hsz, hp⟩ := bif_bad.1 hp
   have hsz : sizeT P e1 = some ty.wd := by simpa using hsz
   obtain ⟨t', l', hat⟩ := hx'.2 e2 ty l d hl
   obtain ⟨ev, e3⟩ := hat.nil_inv
   cases e3
   have hrow := (h.blks id _ hl : RowOk _ _ _ _ _ _ _ _)
   have hr := hrow.rep
   obtain ⟨A, cap, he, hc, hm⟩ := list_of hr
   obtain ⟨p, q, h1, h2, _, hout, hrun⟩ := boundS_ok (P := P) h true hlo hhi hc hp
   have e : step P Γ base o st = boundS l.length lo' hi' fun a b => v1 (.sub id a (b - a)) := by simp only [step, ho, opt, hx, hlo, hhi, ht, hl, hsz]; simp
   rw [e]
   refine ⟨_, _, run_sliceOp ho (by rw [ev, he]; exact run_sliceSl ht hsz hrun), hout _ rfl, rfl, fun e4 t4 l4 d4 hl4 => ?_⟩
   rw [hl] at hl4
   injection hl4 with hl4
   injection hl4 with q1 q2 q3 q4
   subst q2
   cases q3
   refine ⟨_, _, rfl, by omega, by omega, by omega, fun hpos => ?_⟩
   rcases hrow with ⟨hn, rfl⟩ | ⟨b, c, e0, cur, g, S, hv, _⟩
   ·simp at h2; omega
   ·rw [hv] at he
    injection he with k1 k2 k3
    subst k1 k3
    refine ⟨b, c, hv, ?_⟩
    rw [if_neg (by omega)]
    simp [add_eq]
  ·exact hp.elim
 ·exact hp.elim

theorem vo_convert (h : Sat W0 E0 nl N st E a w) {src dst : TypeId} {x : Operand} (ho : o.op = .convert src dst x) (hp : (step P Γ base o st).pre) : ValOk P E st a w o (step P Γ base o st) := by
 simp only [step, ho, opt_pre] at hp
 obtain ⟨x', hx, hp⟩ := hp
 have hx' := h.ev1 hx
 split at hp
 ·rename_i k0 k' k n hs hd
  obtain ⟨he, hn⟩ := int_of hx'
  have e : step P Γ base o st = convK k' k n := by simp only [step, ho, opt, hx, hs, hd]
  rw [e]
  have hrun : (execOp a.eval o).run P w = .ok (.value (.int k' (k'.wrap n))) w := by
   simp [execOp, ho, he, convert, run_underlying hs, run_underlying hd, Conv.intToInt]
  unfold convK at hp ⊢
  split at hp
  ·have h8 : IntKind.u8.wrap n = n % 256 := by rw [IntKind.wrap_u8]
   have h9 : okI .u8 (n % 256) := by simp only [okI]; omega
   exact ⟨_, _, hrun, rfl, by rw [h8]; exact RepC.int h9⟩
  ·have h0 : @LE.le Int _ n 9223372036854775807 := hp.1
   have h9 : okI .i64 n := by
    simp only [okI] at hn ⊢
    omega
   exact ⟨_, _, hrun, rfl, by rw [int_wrap h9]; exact RepC.int h9⟩
  ·rename_i hk
   have h9 : okI .i64 n := by
    cases k <;> simp only [okI] at hn ⊢ <;> first | omega | exact (hk rfl).elim
   exact ⟨_, .one (.c ⟨.int .i64, n⟩), hrun, by cases k <;> first | rfl | exact (hk rfl).elim, by rw [int_wrap h9]; exact RepC.int h9⟩
  ·have h0 : (0 : Int) ≤ n := hp.1
   have h9 : okI .u64 n := by
    cases k <;> simp only [okI] at hn ⊢ <;> omega
   exact ⟨_, _, hrun, rfl, by rw [int_wrap h9]; exact RepC.int h9⟩
  ·exact hp.elim
 ·rename_i y _ _ _ e1 hs hd
  split at hp
  ·rename_i he
   obtain ⟨ty, l, A, cp, G, hev, hr, hp, hout, _⟩ := listOf_ok h hx' hp
   split at hp
   ·rename_i l
    have e : step P Γ base o st = listOf st.tb y fun ty l => (match ty, l with
      | .int .u8, l => .req (l.length ≤ 1000000000000) (vc .str (strOf l))
      | _, _ => .bad) := by simp only [step, ho, opt, hx, hs, hd, he]; try rfl
    rw [e]
    have hlen : l.length ≤ 1000000000000 := hp.1
    have hsz : (strOf l).size ≤ 9223372036854775807 := by
     have : (strOf l).size = l.length := strOfNums_size l
     omega
    have hrun : (convert src dst (.slice A l.length cp)).run P w = .ok (.string (strOf l)) w := by
     rw [hev] at hr
     cases l with
     | nil =>
      rw [run_convert_bytes_string w src dst e1 _ _ _ hs he hd]
      cases A with
      | none => simp [Conv.bytesToString]; rfl
      | some q => simp [Conv.bytesToString, loadCells, loadCellsFrom]; rfl
     | cons x0 l0 =>
      generalize hq : Value.slice A _ cp = q at hr
      generalize hz : (⟨_, _⟩ : Cell) = z at hr
      cases hr with
      | list g h1 h2 hA hr =>
       injection hz with z1 z2
       injection z1 with z1
       subst z1
       cases z2
       injection hq with q1 q2 q3
       subst q1 q3
       obtain ⟨b, off, rfl, _, _, hcell⟩ := hA (by simp)
       refine run_convert_bytes_arg w src e1 hs he b off _ _ (x0 :: l0) rfl (fun i hi => ?_) dst hd
       obtain ⟨xi, hxi⟩ : ∃ xi, (x0 :: l0)[i]? = some xi := ⟨_, List.getElem?_eq_getElem hi⟩
       have h3 := hcell i xi 0 ⟨.int .u8, xi⟩ hxi rfl
       have h4 := hr i xi 0 ⟨.int .u8, xi⟩ hxi rfl
       rw [show off + (i * Ty.u.wd + 0) = off + i from by simp [Ty.wd, Ty.sig]] at h3
       rw [h3, List.getD_eq_getElem?_getD, hxi]
       generalize g i 0 = gv at h4
       cases h4
       rfl
      | _ => cases hz
    exact ⟨.string (strOf l), _, by simp [execOp, ho, hev, hrun], hout _ rfl, RepC.str hsz⟩
   ·exact hp.elim
  ·exact hp.elim
 ·exact hp.elim

theorem RepA.one {v : Value} {x : A1} (h : RepA w E tb v x) (h1 : one1 x = true) : v.oneCell' = true := by
 cases x with
 | c y => exact RepC.one h
 | lit b => cases (show v = .bool b from h); rfl
 | nil => cases (show v = .slice none 0 0 from h); rfl
 | val u => cases (show v = u from h); cases v <;> first | rfl | cases h1
 | ref id off => exact h.1
 | roe t l k off => obtain ⟨b, o, g, rfl, _⟩ := h; rfl
 | ptr id p k off => exact h.1
 | sl id p => exact h.1
 | sub id lo n => exact h.1
 | fn f caps => obtain ⟨arr, rfl, _⟩ := h; rfl
theorem cells_one {v : Value} (h : v.oneCell' = true) : v.cells = #[v] := by
 cases v <;> first | rfl | cases h
theorem cells_ok {v : Value} {x : AV} {l : List A1} (h : RepV w E tb v x) (hl : x.cells = some l) : RepL w E tb v.cells l := by
 cases x with
 | one y =>
  simp only [AV.cells] at hl
  cases h1 : one1 y with
  | false => rw [h1] at hl; cases hl
  | true =>
   rw [h1] at hl
   injection hl with hl
   subst hl
   have ho := RepA.one h h1
   rw [cells_one ho]
   refine ⟨rfl, fun i z hi => ?_⟩
   cases i with
   | zero => simp at hi; subst hi; exact ⟨v, rfl, ho, h⟩
   | succ i => simp at hi
 | agg m =>
  injection hl with hl
  subst hl
  obtain ⟨arr, rfl, hr⟩ := h
  exact hr
 | tup m => cases hl
theorem zeros_ok {v : Value} {l : List A1} (hz : zeros v = some l) : RepL w E st.tb v.cells l := by
 unfold zeros at hz
 cases h : v.cells.toList.all Value.oneCell' with
 | true =>
  rw [h] at hz
  injection hz with hz
  subst hz
  refine ⟨by simp, fun i x hi => ?_⟩
  simp only [List.getElem?_map, Option.map_eq_some_iff] at hi
  obtain ⟨u, hu, rfl⟩ := hi
  exact ⟨u, by simpa using hu, (List.all_eq_true.1 h) u (List.mem_of_getElem? hu), cst1_ok u⟩
 | false =>
  rw [h] at hz
  cases hz
theorem zeroT_some {t : TypeId} {l : List A1} (h : (zeroT P t).bind zeros = some l) : ∃ i z, P.info? t = some i ∧ i.zero = some z ∧ zeros z = some l := by
 obtain ⟨z, h1, h2⟩ := bind_some_iff.1 h
 unfold zeroT at h1
 obtain ⟨i, h3, h4⟩ := bind_some_iff.1 h1
 exact ⟨i, z, h3, h4, h2⟩
theorem foldl_set (vs : Array Value) (off : Nat) (arr : Array Value) (hle : off + vs.size ≤ arr.size) :
  (vs.zipIdx.foldl (fun cs (c, j) => cs.setIfInBounds (off + j) c) arr).size = arr.size ∧ ∀ i, (vs.zipIdx.foldl (fun cs (c, j) => cs.setIfInBounds (off + j) c) arr)[i]? = if off ≤ i ∧ i < off + vs.size then vs[i - off]? else arr[i]? := by
 rw [← Array.foldl_toList]
 have key : ∀ (l : List Value) (k : Nat) (arr : Array Value), off + k + l.length ≤ arr.size →
   ((l.zipIdx k).foldl (fun cs (p : Value × Nat) => cs.setIfInBounds (off + p.2) p.1) arr).size = arr.size ∧ ∀ i, ((l.zipIdx k).foldl (fun cs (p : Value × Nat) => cs.setIfInBounds (off + p.2) p.1) arr)[i]? = if off + k ≤ i ∧ i < off + k + l.length then l[i - (off + k)]? else arr[i]? := by
  intro l
  induction l with
  | nil => intro k arr h; exact ⟨rfl, fun i => by rw [if_neg (by simp only [List.length_nil]; omega)]; rfl⟩
  | cons c l ih =>
   intro k arr h
   simp only [List.zipIdx_cons, List.foldl_cons]
   obtain ⟨h1, h2⟩ := ih (k + 1) (arr.setIfInBounds (off + k) c) (by simp at h ⊢; omega)
   refine ⟨by rw [h1]; simp, fun i => ?_⟩
   rw [h2 i]
   simp only [List.length_cons] at h ⊢
   by_cases hi : off + (k + 1) ≤ i ∧ i < off + (k + 1) + l.length
   ·rw [if_pos hi, if_pos (by omega), show i - (off + k) = (i - (off + (k + 1))) + 1 from by omega]
    simp
   ·rw [if_neg hi]
    by_cases he : i = off + k
    ·subst he
     rw [if_pos (by omega)]
     simp [show off + k < arr.size from by omega]
    ·rw [if_neg (by omega), Array.getElem?_setIfInBounds_ne (fun e => he e.symm)]
 have := key vs.toList 0 arr (by simpa using hle)
 simpa using this
theorem RepL.ovr {arr : Array Value} {l m vs : List A1} {ws : Array Value} {off : Nat} (h : RepL w E tb arr l) (hv : RepL w E tb ws vs) (ho : ovr l off vs = some m) : ws.size ≤ arr.size ∧ off + ws.size ≤ arr.size ∧ RepL w E tb (ws.zipIdx.foldl (fun cs (c, j) => cs.setIfInBounds (off + j) c) arr) m := by
 obtain ⟨h1, h2, h3⟩ := ovr_get ho
 have hs := h.1
 have hs2 := hv.1
 have hle : off + ws.size ≤ arr.size := by omega
 obtain ⟨g1, g2⟩ := foldl_set ws off arr hle
 refine ⟨by omega, hle, by rw [g1, hs, h1], fun i x hi => ?_⟩
 rw [g2 i]
 rw [h3 i, ← hs2] at hi
 by_cases hc : off ≤ i ∧ i < off + ws.size
 ·rw [if_pos hc] at hi ⊢
  exact hv.2 _ _ hi
 ·rw [if_neg hc] at hi ⊢
  exact h.2 _ _ hi
theorem fillA_ok (h : Sat W0 E0 nl N st E a w) {place : Nat → Option (Nat × Nat)} {place' : Nat → Option (Nat × Nat)} (hpl : ∀ i q, place i = some q → place' i = some q) : ∀ (parts : List (Nat × Operand)) (arr : Array Value) (l m : List A1), RepL w E st.tb arr l → fillA place st l parts = some m →
  ∃ arr', Instr.fill place' arr (parts.map fun p => (p.1, a.eval p.2)) = some arr' ∧ RepL w E st.tb arr' m := by
 intro parts
 induction parts with
 | nil =>
  intro arr l m hr hf
  simp only [fillA, Option.some.injEq] at hf
  subst hf
  exact ⟨arr, rfl, hr⟩
 | cons p parts ih =>
  intro arr l m hr hf
  obtain ⟨i, x⟩ := p
  simp only [fillA] at hf
  split at hf
  ·rename_i off size vs h1 h2
   rw [bind_some_iff] at h2
   obtain ⟨v, hx, hvs⟩ := h2
   cases hb : Nat.beq vs.length size with
   | false => rw [hb] at hf; cases hf
   | true =>
    rw [hb] at hf
    simp only [cond_true] at hf
    split at hf
    ·rename_i cs hcs
     have hv := cells_ok (h.ev hx) hvs
     obtain ⟨k1, k2, k3⟩ := hr.ovr hv hcs
     obtain ⟨arr', k4, k5⟩ := ih _ _ _ k3 hf
     refine ⟨arr', ?_, k5⟩
     have hsz : (a.eval x).cells.size = size := by rw [hv.1]; exact (beq_iff _ _).1 hb
     simp only [List.map_cons, Instr.fill, hpl _ _ h1]
     rw [if_neg (by simp [hsz]; omega)]
     exact k4
    ·cases hf
  ·cases hf
theorem run_places (fs : List Field) (hall : (fs.all fun f => (sizeT P f.type).isSome) = true) : (fs.mapM (fun f => (do pure (f.offset, ← sizeOf f.type) : Sem (Nat × Nat)))).run P w = .ok (fs.map fun f => (f.offset, (sizeT P f.type).getD 0)) w := by
 induction fs with
 | nil => rfl
 | cons f fs ih =>
  simp only [List.all_cons, Bool.and_eq_true] at hall
  obtain ⟨h1, h2⟩ := hall
  obtain ⟨n, hn⟩ := Option.isSome_iff_exists.1 h1
  obtain ⟨i, hi, rfl⟩ := sizeT_some hn
  simp [List.mapM_cons, sizeOf, typeInfo, hi, hn]
  have := ih h2
  simp [sizeOf, typeInfo] at this
  rw [this]
  rfl
theorem vo_build (h : Sat W0 E0 nl N st E a w) {t : TypeId} {parts : Array (Nat × Operand)} (ho : o.op = .build t parts) (hp : (step P Γ base o st).pre) : ValOk P E st a w o (step P Γ base o st) := by
 simp only [step, ho, opt_pre] at hp
 obtain ⟨z, hz, hp⟩ := hp
 split at hp
 ·rename_i fs ht
  obtain ⟨hall, hp⟩ := bif_bad.1 hp
  simp only [opt_pre] at hp
  obtain ⟨l, hl, _⟩ := hp
  obtain ⟨i, zv, hi, hzv, hzl⟩ := zeroT_some hz
  have hr0 := zeros_ok (w := w) (E := E) (st := st) hzl
  have hpl := run_places (P := P) (w := w) fs.toList hall
  have harr : (fs.mapM (fun f => (do pure (f.offset, ← sizeOf f.type) : Sem (Nat × Nat)))).run P w = .ok (fs.toList.map fun f => (f.offset, (sizeT P f.type).getD 0)).toArray w := by
   rw [Array.mapM_eq_mapM_toList, Sem.run_map, hpl]
   rfl
  obtain ⟨arr', h1, h2⟩ := fillA_ok h (place' := fun j => ((fs.toList.map fun f => (f.offset, (sizeT P f.type).getD 0)).toArray)[j]?) (fun j q hq => by
   obtain ⟨f, hf, hq⟩ := bind_some_iff.1 hq
   simp only [Option.map_eq_some_iff] at hq
   obtain ⟨n, hn, rfl⟩ := hq
   simp [hf, hn]) parts.toList _ _ _ hr0 hl
  have e : step P Γ base o st = .ret { val := .agg l } := by simp only [step, ho, opt, hz, ht, hall, cond_true, hl]
  rw [e]
  refine ⟨.agg arr', _, ?_, rfl, arr', rfl, h2⟩
  have h1' : Instr.fill (fun j => ((fs.toList.map fun f => (f.offset, (sizeT P f.type).getD 0)).toArray)[j]?) zv.cells (parts.map fun (i, x) => (i, a.eval x)).toList = some arr' := by simpa using h1
  simp only [execOp, ho, Instr.build, zeroValue, typeInfo, Sem.run_bind, run_program, hi, Result.andThen_ok, Sem.run_pure, hzv, run_underlying ht, harr, h1']
 ·exact hp.elim
end
end Go.Proofs.YtpgglbnagphgoaaGreat
/- Data that are put into memory of ours: what they own. -/
namespace Go.Proofs.YtpgglbnagphgoaaGreat
open Go.RowKit
open SR (opt)

section
variable {P : Program} {Γ : Cfg} {W0 w : World} {E0 E : Env} {nl N base : Nat} {st : ASt} {a : Act} {o : Oper}

def Gof (w : World) (E : Env) (tb : Tb) (x : A1) (b : Nat) : Prop := Fz w E tb b ∨ ∃ i, i ∈ rows1 x ∧ (lk tb i).isSome = true ∧ E.bs i b
def Sof (E : Env) (tb : Tb) (x : A1) (b : Nat) : Prop := ∃ i, i ∈ (own1 tb x).2 ∧ (lk tb i).isSome = true ∧ E.bs i b
def CellFact (w : World) (E : Env) (tb : Tb) (x : A1) (u : Value) (c : Cell) : Prop := RepC w (Gof w E tb x) u c ∧ ((own1 tb x).1 = true → OwnC w (Sof E tb x) u c)
theorem RepC.own {F B : Nat → Prop} {u : Value} {c : Cell} (h : RepC w F u c) (hc : ∀ t l, c ≠ ⟨.list t, l⟩) : OwnC w B u c := by
 cases h with
 | int h => exact .int h
 | bool => exact .bool
 | str h => exact .str h
 | junk h => exact .junk h
 | list => exact absurd rfl (hc _ _)
theorem OwnC.at_ {w : World} {B : Nat → Prop} {v v' : Value} {t t' : Ty} {l : List t.den} {l' : List t'.den} {p : List (Nat × Nat)} (ho : OwnC w B v ⟨.list t, l⟩) (h : At w v t l p v' t' l') : OwnC w B v' ⟨.list t', l'⟩ := by
 induction h generalizing B with
 | here => exact ho
 | @step b o n c k off t t1 t' l l1 l' p x v1 v' hx hn hc h ih =>
  generalize hz : (⟨.list t, l⟩ : Cell) = z at ho
  generalize hy : Value.slice (some ⟨b, o, none⟩) n c = y at ho
  cases ho with
  | nil => cases hy
  | list g S hB hh hs hc' hm hg hS hd hr =>
   cases hz
   injection hy with e1 e2 e3
   injection e1 with e1
   injection e1 with e4 e5 e6
   subst e4 e5
   rw [nth_eq] at hn
   have h1 := hg k x off _ hx hn
   rw [cell_of_row w b _ _ _ (0, 0) hh, Nat.zero_add, h1] at hc
   injection hc with hc
   subst hc
   exact (ih (hr k x off _ hx hn)).mono fun b hb => ⟨(hS k off b hb).1, rfl⟩
  | junk => cases hz
  | int => cases hy
  | bool => cases hy
  | str => cases hy
theorem decC_ok (h : Sat W0 E0 nl N st E a w) {x : A1} {u : Value} (hx : RepA w E st.tb u x) {ty : Ty} {f : Cell → SR} (hp : (decC st.tb ty x f).pre) :
  ∃ c : Cell, c.t = ty ∧ (f c).pre ∧ (∀ e, (f c).outs e → (decC st.tb ty x f).outs e) ∧ CellFact w E st.tb x u c := by
 unfold decC at hp
 split at hp
 ·rename_i y
  split at hp
  ·rename_i hy
   have hr : RepC w (Fz w E st.tb) u y := hx
   refine ⟨y, hy, hp, fun e he => by simp only [decC, if_pos hy]; exact he, hr.mono (fun b hb _ => ⟨.inl hb, rfl⟩) (Nat.le_refl _), fun ho => hr.own fun t l e => ?_⟩
   subst e
   cases ho
  ·exact hp.elim
 ·rename_i b
  split at hp
  ·rename_i hy
   cases (show u = .bool b from hx)
   exact ⟨cb b, hy.symm, hp, fun e he => by simp only [decC, if_pos hy]; exact he, RepC.bool, fun _ => OwnC.bool⟩
  ·exact hp.elim
 ·cases (show u = .slice none 0 0 from hx)
  split at hp
  ·rename_i t
   exact ⟨⟨.list t, []⟩, rfl, hp, fun e he => he, OwnC.nil.rep, fun _ => OwnC.nil⟩
  ·exact hp.elim
 ·rename_i id p
  split at hp
  ·rename_i e t l d hl
   obtain ⟨t', l', hat⟩ := hx.2 e t l d hl
   have hrow := (h.blks id _ hl : RowOk _ _ _ _ _ _ _ _)
   have hr := RepC.at_ hat hrow.rep
   have hp2 := pathSR_pre hat hp
   split at hp2
   ·rename_i ht
    refine ⟨⟨.list t', l'⟩, ht, hp2, fun e he => by simp only [decC, hl]; exact pathSR_outs hat (by rw [if_pos ht]; exact he), hr.mono (fun b hb _ => ⟨hb.imp_right fun hb => ⟨id, by simp [rows1], by rw [hl]; rfl, hb⟩, rfl⟩) (Nat.le_refl _), fun ho => ?_⟩
    cases d with
    | true => exact (hrow.own.at_ hat).mono fun b hb => ⟨⟨id, by simp [own1, hl], by rw [hl]; rfl, hb⟩, rfl⟩
    | false => simp [own1, hl] at ho
   ·exact hp2.elim
  ·exact hp.elim
 ·rename_i id lo n
  split at hp
  ·rename_i e t l d hl
   split at hp
   ·rename_i ht
    obtain ⟨t2, l2, A, c, G, hu, hr, hp2, hout, hG⟩ := listOf_ok (f := fun t2 l2 => .req ((⟨.list t2, l2⟩ : Cell) = ⟨.list t, (l.drop lo).take n⟩) (.ret { val := .one .nil })) h hx (by simp only [listOf, hl]; exact ⟨trivial, trivial⟩)
    have hl2 : (⟨.list t2, l2⟩ : Cell) = ⟨.list t, (l.drop lo).take n⟩ := hp2.1
    refine ⟨⟨.list t, (l.drop lo).take n⟩, ht, hp, fun e he => by simp only [decC, hl, if_pos ht]; exact he, ?_, fun ho => by cases ho⟩
    rw [← hl2]
    exact hr.mono (fun b hb _ => ⟨hG b hb, rfl⟩) (Nat.le_refl _)
   ·exact hp.elim
  ·exact hp.elim
 ·exact hp.elim
theorem decL_ok (h : Sat W0 E0 nl N st E a w) {us : Nat → Value} : ∀ {tys : List Ty} {l : List A1} {f : List Cell → SR} {k : Nat}, (∀ j x, l[j]? = some x → RepA w E st.tb (us (k + j)) x) → (decL st.tb tys l f).pre →
  ∃ cs : List Cell, cs.map (·.t) = tys ∧ (f cs).pre ∧ (∀ e, (f cs).outs e → (decL st.tb tys l f).outs e) ∧ ∀ j c, cs[j]? = some c → ∃ x, l[j]? = some x ∧ CellFact w E st.tb x (us (k + j)) c := by
 intro tys
 induction tys with
 | nil =>
  intro l f k hl hp
  cases l with
  | nil => exact ⟨[], rfl, hp, fun e he => he, fun j c hj => by simp at hj⟩
  | cons => exact hp.elim
 | cons ty tys ih =>
  intro l f k hl hp
  cases l with
  | nil => exact hp.elim
  | cons x l =>
   simp only [decL] at hp
   obtain ⟨c, h1, h2, h3, h4⟩ := decC_ok h (hl 0 x rfl) hp
   obtain ⟨cs, g1, g2, g3, g4⟩ := ih (l := l) (f := fun l => f (c :: l)) (k := k + 1) (fun j x hj => by have := hl (j + 1) x (by simpa using hj); rwa [show k + 1 + j = k + (j + 1) from by omega]) h2
   refine ⟨c :: cs, by simp [h1, g1], g2, fun e he => by simp only [decL]; exact h3 e (g3 e he), fun j d hj => ?_⟩
   cases j with
   | zero =>
    simp only [List.getElem?_cons_zero, Option.some.injEq] at hj
    subst hj
    exact ⟨x, rfl, h4⟩
   | succ j =>
    obtain ⟨y, k1, k2⟩ := g4 j d (by simpa using hj)
    exact ⟨y, by simpa using k1, by rwa [show k + (j + 1) = k + 1 + j from by omega]⟩
theorem decT_ok (h : Sat W0 E0 nl N st E a w) {us : Nat → Value} {t : Ty} {l : List A1} {f : t.den → SR} {k : Nat} (hl : ∀ j x, l[j]? = some x → RepA w E st.tb (us (k + j)) x) (hp : (decT st.tb t l f).pre) :
  ∃ x : t.den, (f x).pre ∧ (∀ e, (f x).outs e → (decT st.tb t l f).outs e) ∧ ∀ j c, (t.cells x)[j]? = some c → ∃ y, l[j]? = some y ∧ CellFact w E st.tb y (us (k + j)) c := by
 unfold decT at hp
 obtain ⟨cs, h1, h2, h3, h4⟩ := decL_ok h hl hp
 obtain ⟨x, hx, hp2⟩ := (opt_pre _ _).1 h2
 refine ⟨x, hp2, fun e he => h3 e ((opt_outs _ _ _).2 ⟨x, hx, he⟩), fun j c hj => ?_⟩
 rw [Ty.mk_eq hx] at hj
 exact h4 j c hj
theorem groups_ok {n : Nat} : ∀ {m : Nat} {l : List A1} {gs : List (List A1)}, groups n m l = some gs → gs.length = m ∧ l.length = m * n ∧ ∀ i g, gs[i]? = some g → g.length = n ∧ ∀ j, j < n → g[j]? = l[i * n + j]? := by
 intro m
 induction m with
 | zero =>
  intro l gs hg
  cases l with
  | nil => simp only [groups, Option.some.injEq] at hg; subst hg; exact ⟨rfl, by simp, fun i g hi => by simp at hi⟩
  | cons => cases hg
 | succ m ih =>
  intro l gs hg
  simp only [groups] at hg
  split at hg
  ·rename_i g hc
   simp only [Option.map_eq_some_iff] at hg
   obtain ⟨gs', h1, rfl⟩ := hg
   obtain ⟨h2, h3, h4⟩ := ih h1
   obtain ⟨c1, c2, c3⟩ := cut_get hc
   simp at h3
   refine ⟨by simp [h2], by rw [Nat.succ_mul]; omega, fun i g' hi => ?_⟩
   cases i with
   | zero =>
    simp only [List.getElem?_cons_zero, Option.some.injEq] at hi
    subst hi
    exact ⟨c1, fun j hj => by rw [c3 j hj]; congr 1; omega⟩
   | succ i =>
    obtain ⟨k1, k2⟩ := h4 i g' (by simpa using hi)
    refine ⟨k1, fun j hj => ?_⟩
    rw [k2 j hj, List.getElem?_drop]
    congr 1
    rw [Nat.succ_mul]; omega
  ·cases hg
theorem decR_ok (h : Sat W0 E0 nl N st E a w) {us : Nat → Value} {t : Ty} : ∀ {gs : List (List A1)} {f : List t.den → SR} {k : Nat}, (∀ i g, gs[i]? = some g → ∀ j x, g[j]? = some x → RepA w E st.tb (us ((k + i) * t.wd + j)) x) → (decR st.tb t gs f).pre →
  ∃ xs : List t.den, xs.length = gs.length ∧ (f xs).pre ∧ (∀ e, (f xs).outs e → (decR st.tb t gs f).outs e) ∧ ∀ i x j c, xs[i]? = some x → (t.cells x)[j]? = some c → ∃ g y, gs[i]? = some g ∧ g[j]? = some y ∧ CellFact w E st.tb y (us ((k + i) * t.wd + j)) c := by
 intro gs
 induction gs with
 | nil => intro f k hl hp; exact ⟨[], rfl, hp, fun e he => he, fun i x j c hi => by simp at hi⟩
 | cons g gs ih =>
  intro f k hl hp
  simp only [decR] at hp
  obtain ⟨x, h1, h2, h3⟩ := decT_ok h (us := us) (k := k * t.wd) (fun j x hj => by have := hl 0 g rfl j x hj; simpa using this) hp
  obtain ⟨xs, g1, g2, g3, g4⟩ := ih (f := fun l => f (x :: l)) (k := k + 1) (fun i g' hi j y hj => by have := hl (i + 1) g' (by simpa using hi) j y hj; rwa [show k + 1 + i = k + (i + 1) from by omega]) h1
  refine ⟨x :: xs, by simp [g1], g2, fun e he => by simp only [decR]; exact h2 e (g3 e he), fun i y j c hi hj => ?_⟩
  cases i with
  | zero =>
   simp only [List.getElem?_cons_zero, Option.some.injEq] at hi
   subst hi
   obtain ⟨z, k1, k2⟩ := h3 j c hj
   exact ⟨g, z, rfl, k1, by simpa using k2⟩
  | succ i =>
   obtain ⟨g', z, k1, k2, k3⟩ := g4 i y j c (by simpa using hi) hj
   exact ⟨g', z, by simpa using k1, k2, by rwa [show k + (i + 1) = k + 1 + i from by omega]⟩

theorem menF_ok {id : Nat} {fr : Fr} (h : menF id fr = false) {i : Nat} {v : AV} (hi : lk fr i = some v) : v.men id = false := by
 induction fr with
 | nil => cases hi
 | cons p fr ih =>
  obtain ⟨j, u⟩ := p
  simp only [menF, Bool.or_eq_false_iff] at h
  rw [lk_cons] at hi
  split at hi
  ·injection hi with hi; subst hi; exact h.1
  ·exact ih h.2 hi
theorem menB_ok {id : Nat} {tb : Tb} (h : menB id tb = false) : lk tb id = none ∧ ∀ i f vs, lk tb i = some (.box f vs) → menL id vs = false := by
 induction tb with
 | nil => exact ⟨rfl, fun i f vs hi => by cases hi⟩
 | cons p tb ih =>
  obtain ⟨j, b⟩ := p
  simp only [menB, Bool.or_eq_false_iff] at h
  obtain ⟨h1, h2⟩ := ih h.2
  refine ⟨by rw [lk_cons, if_neg (fun e => (beq_no.1 h.1.1) e.symm)]; exact h1, fun i f vs hi => ?_⟩
  rw [lk_cons] at hi
  split at hi
  ·injection hi with hi; subst hi; exact h.1.2
  ·exact h2 i f vs hi
theorem menL_ok {id : Nat} {l : List A1} (h : menL id l = false) : ∀ x ∈ l, men1 id x = false := by
 induction l with
 | nil => intro x hx; cases hx
 | cons y l ih =>
  simp only [menL, Bool.or_eq_false_iff] at h
  intro x hx
  cases hx with
  | head => exact h.1
  | tail _ hx => exact ih h.2 x hx
theorem menT_ok {id : Nat} {l : List (Bool × List A1)} (h : menT id l = false) : ∀ x ∈ l, menL id x.2 = false := by
 induction l with
 | nil => intro x hx; cases hx
 | cons y l ih =>
  simp only [menT, Bool.or_eq_false_iff] at h
  intro x hx
  cases hx with
  | head => exact h.1
  | tail _ hx => exact ih h.2 x hx
theorem fresh_ok {id : Nat} (h : st.fresh id = true) : 20 ≤ id ∧ lk st.tb id = none ∧ (∀ i v, lk st.fr i = some v → v.men id = false) ∧ ∀ i f vs, lk st.tb i = some (.box f vs) → menL id vs = false := by
 simp only [ASt.fresh, Bool.and_eq_true, Bool.not_eq_true'] at h
 obtain ⟨⟨h1, h2⟩, h3⟩ := h
 obtain ⟨h4, h5⟩ := menB_ok h3
 exact ⟨Nat.le_of_ble_eq_true h1, h4, fun i v hi => menF_ok h2 hi, h5⟩
variable {w' : World} {E' : Env} {tb' : Tb}
theorem goodL_of {id : Nat} {l : List A1} (hm : menL id l = false) (hk : ∀ j T, j ≠ id → KeepId w E st.tb w' E' tb' j T) : GoodL w E st.tb w' E' tb' l :=
 fun x hx j hj => hk j _ fun e => by subst e; rw [menL_ok hm x hx] at hj; cases hj
theorem goodV_of {id : Nat} {v : AV} (hm : v.men id = false) (hk : ∀ j T, j ≠ id → KeepId w E st.tb w' E' tb' j T) : GoodV w E st.tb w' E' tb' v := by
 cases v with
 | one x => exact fun j hj => hk j _ fun e => by subst e; simp only [AV.men] at hm; rw [hm] at hj; cases hj
 | agg l => exact goodL_of hm hk
 | tup l => exact fun c hc => goodL_of (menT_ok hm c hc) hk
end
end Go.Proofs.YtpgglbnagphgoaaGreat
/- Operations that make a block. -/
namespace Go.Proofs.YtpgglbnagphgoaaGreat
open Go.RowKit
open SR (opt)

def Env.push (E : Env) (tb : Tb) (n id : Nat) (v : Value) (ow : Bool) (dl : List Nat) : Env := {
 hd := fun i => if i = id then n else E.hd i
 hv := fun i => if i = id then v else E.hv i
 bs := fun i b => if i = id then b = n ∨ (ow = true ∧ ∃ k, k ∈ dl ∧ (lk tb k).isSome = true ∧ E.bs k b) else E.bs i b
 ro := E.ro }

section
variable {P : Program} {Γ : Cfg} {W0 w : World} {E0 E : Env} {nl N base : Nat} {st : ASt} {a : Act} {o : Oper}

theorem chg_new (h : Sat W0 E0 nl N st E a w) {id : Nat} (hf : st.fresh id = true) (cur : Array Value) (T : TypeId) (v : Value) (ow : Bool) (dl : List Nat) (blk : Blk) (fr : Fr) (nx : Nat) :
  Chg st E w ⟨fr, (id, blk) :: erl dl st.tb, nx⟩ (E.push st.tb w.heap.size id v ow dl) (w.alloc (.cells cur T)) (fun i => i = id ∨ i ∈ dl) := {
 same := fun i hi => by
  have h1 : i ≠ id := fun e => hi (.inl e)
  have h2 : i ∉ dl := fun e => hi (.inr e)
  refine ⟨by rw [lk_cons, if_neg h1, lk_erl, if_neg h2], by simp [Env.push, h1], by simp [Env.push, h1], ?_⟩
  funext b
  simp [Env.push, h1]
 heap := fun b hb _ => Below.heap_alloc w _ b hb
 size := by rw [World.size_alloc]; omega
 bs := fun i b hi hs hb => by
  have hid : i = id := by
   rcases hi with rfl | hi
   ·rfl
   ·refine Classical.byContradiction fun hne => ?_
    rw [lk_cons, if_neg hne, lk_erl, if_pos hi] at hs
    cases hs
  subst hid
  simp only [Env.push, if_true] at hb
  rw [World.size_alloc]
  rcases hb with rfl | ⟨_, k, h1, h2, h3⟩
  ·exact ⟨by omega, .inr (Nat.le_refl _)⟩
  ·have := (h.mine k b h2 h3).1
   exact ⟨by omega, .inl ⟨k, .inr h1, h2, h3⟩⟩
 disj := fun i j b hi hj hsi hsj hbi hbj => by
  have hid : ∀ i, (i = id ∨ i ∈ dl) → (lk ((id, blk) :: erl dl st.tb) i).isSome = true → i = id := fun i hi hs => by
   rcases hi with rfl | hi
   ·rfl
   ·refine Classical.byContradiction fun hne => ?_
    rw [lk_cons, if_neg hne, lk_erl, if_pos hi] at hs
    cases hs
  rw [hid i hi hsi, hid j hj hsj]
 ro := rfl
 os := rfl
 tape := rfl
 output := rfl }
theorem keep_new (h : Sat W0 E0 nl N st E a w) {id : Nat} (hf : st.fresh id = true) (cur : Array Value) (T : TypeId) (v : Value) (ow : Bool) (dl : List Nat) (blk : Blk) (j : Nat) (X : Prop) (hj : j ≠ id) :
  KeepId w E st.tb (w.alloc (.cells cur T)) (E.push st.tb w.heap.size id v ow dl) ((id, blk) :: erl dl st.tb) j X := by
 by_cases hd : j ∈ dl
 ·have hn : lk ((id, blk) :: erl dl st.tb) j = none := by rw [lk_cons, if_neg hj, lk_erl, if_pos hd]
  exact ⟨fun f vs hl => by (rw [hn] at hl; cases hl), fun e t l d hl => by (rw [hn] at hl; cases hl)⟩
 ·exact (chg_new h hf cur T v ow dl blk st.fr st.nx).keep h (fun hc => hc.elim hj hd) X
theorem Sat.newBlk (h : Sat W0 E0 nl N st E a w) {id : Nat} (hf : st.fresh id = true) {cur : Array Value} {T : TypeId} {v : Value} {ow : Bool} {dl : List Nat} {blk : Blk} {dst : Option Nat} {x : AV} {u : Value} (hd : ∀ d, dst = some d → d < N)
  (hblk : BlkOk W0 (w.alloc (.cells cur T)) (E.push st.tb w.heap.size id v ow dl) ((id, blk) :: erl dl st.tb) id blk) (hv : RepV (w.alloc (.cells cur T)) (E.push st.tb w.heap.size id v ow dl) ((id, blk) :: erl dl st.tb) u x) :
  Sat W0 E0 nl N ⟨putF dst x st.fr, (id, blk) :: erl dl st.tb, st.nx⟩ (E.push st.tb w.heap.size id v ow dl) (a.put dst u) (w.alloc (.cells cur T)) := by
 obtain ⟨f1, f2, f3, f4⟩ := fresh_ok hf
 have hk := fun j X hj => keep_new h hf cur T v ow dl blk j X hj
 refine h.chg (chg_new h hf cur T v ow dl blk _ _) (fun i y hi => ?_) (fun i g vs hi hl => goodL_of (f4 i g vs hl) hk) (fun i b hi hl => ?_) (fun i hi hc hs => ?_) ?_ ?_
 ·cases dst with
  | none => exact .inl ⟨hi, rfl, goodV_of (f3 i y hi) hk⟩
  | some d =>
   simp only [putF] at hi
   rw [lk_cons] at hi
   split at hi
   ·rename_i e
    subst e
    injection hi with hi
    subst hi
    exact .inr ⟨u, by simp [Act.put, h.size, hd _ rfl], hv⟩
   ·rename_i e
    exact .inl ⟨hi, by simp only [Act.put]; rw [Array.getElem?_setIfInBounds_ne (fun e' => e e'.symm)], goodV_of (f3 i y hi) hk⟩
 ·have hid : i = id := by
   rcases hi with rfl | hi
   ·rfl
   ·refine Classical.byContradiction fun hne => ?_
    rw [lk_cons, if_neg hne, lk_erl, if_pos hi] at hl
    cases hl
  subst hid
  rw [lk_cons, if_pos rfl] at hl
  injection hl with hl
  subst hl
  exact hblk
 ·exfalso
  rcases hc with rfl | hc
  ·omega
  ·have hne : i ≠ id := by omega
   rw [lk_cons, if_neg hne, lk_erl, if_pos hc] at hs
   cases hs
 ·cases dst <;> exact h.defers
 ·cases dst <;> simp [Act.put, h.size]

theorem outs_ret (e : Eff) : (SR.ret e).outs e := rfl
theorem new_op {r : SR} {u : Value} {w1 : World} {e : Eff} {E1 : Env} (hrun : (execOp a.eval o).run P w = .ok (.value u) w1) (ho : r.outs e) (hs : Sat W0 E0 nl N (e.app st o.dst) E1 (a.put o.dst u) w1) (Q : Exit → Act → World → Prop) :
  o.wp P a w (After W0 E0 nl N st o r) Q := by
 unfold Oper.wp
 rw [hrun]
 exact ⟨e, E1, ho, hs⟩

theorem fz_new (h : Sat W0 E0 nl N st E a w) {id : Nat} (hf : st.fresh id = true) (cur : Array Value) (T : TypeId) (v : Value) (ow : Bool) (dl : List Nat) (blk : Blk) (b : Nat) (hb : Fz w E st.tb b) :
  Fz (w.alloc (.cells cur T)) (E.push st.tb w.heap.size id v ow dl) ((id, blk) :: erl dl st.tb) b ∧ (w.alloc (.cells cur T)).heap[b]? = w.heap[b]? :=
 (chg_new h hf cur T v ow dl blk st.fr st.nx).fz b hb
theorem box_new (h : Sat W0 E0 nl N st E a w) {id : Nat} (hf : st.fresh id = true) {cur : Array Value} {T : TypeId} {vs : List A1} (hr : RepL w E st.tb cur vs) (hm : menL id vs = false) :
  BlkOk W0 (w.alloc (.cells cur T)) (E.push st.tb w.heap.size id .nilFunc false []) ((id, .box false vs) :: erl [] st.tb) id (.box false vs) := by
 refine ⟨cur, T, by simp only [Env.push, if_true]; exact heap_alloc_new w _, by simp [Env.push], ?_, fun h => by cases h⟩
 exact hr.keep (fz_new h hf cur T _ _ _ _) (by rw [World.size_alloc]; omega) (goodL_of hm fun j X hj => keep_new h hf cur T _ _ _ _ j X hj)
theorem cst1_men (id : Nat) (v : Value) : men1 id (cst1 v) = false := by
 unfold cst1
 split
 ·split <;> rfl
 ·rfl
 ·rename_i s
  cases Nat.ble s.size 9223372036854775807 <;> rfl
 ·rfl
 ·rfl
theorem zeros_men {v : Value} {l : List A1} (id : Nat) (hz : zeros v = some l) : menL id l = false := by
 unfold zeros at hz
 cases h : v.cells.toList.all Value.oneCell' with
 | true =>
  rw [h] at hz
  injection hz with hz
  subst hz
  generalize v.cells.toList = m
  induction m with
  | nil => rfl
  | cons x m ih => simp only [List.map_cons, menL, cst1_men, ih, Bool.or_false]
 | false => rw [h] at hz; cases hz
theorem op_alloc (h : Sat W0 E0 nl N st E a w) (hd : ∀ d, o.dst = some d → d < N) {e : TypeId} (ho : o.op = .alloc e) (hp : (step P Γ base o st).pre) (Q : Exit → Act → World → Prop) : o.wp P a w (After W0 E0 nl N st o (step P Γ base o st)) Q := by
 simp only [step, ho] at hp
 obtain ⟨hf, hp⟩ := bif_bad.1 hp
 obtain ⟨l, hl, _⟩ := (opt_pre _ _).1 hp
 obtain ⟨i, z, hi, hz, hzl⟩ := zeroT_some hl
 have hr := zeros_ok (w := w) (E := E) (st := st) hzl
 have es : step P Γ base o st = .ret { val := .one (.ref base 0), ins := [(base, .box false l)] } := by simp only [step, ho, hf, cond_true, opt, hl]
 have hrun : (execOp a.eval o).run P w = .ok (.value (.pointer (some ⟨w.heap.size, 0, none⟩))) (w.alloc (.cells z.cells e)) := by
  simp [execOp, ho, Instr.alloc, zeroValue, typeInfo, hi, hz, newVar, newRow, newObj, Sem.run]
 rw [es]
 exact new_op hrun (outs_ret _) (h.newBlk (v := .nilFunc) (ow := false) (dl := []) (x := .one (.ref base 0)) (u := .pointer (some ⟨w.heap.size, 0, none⟩)) hf hd (box_new h hf hr (zeros_men _ hzl)) ⟨rfl, fun f vs _ => by simp [Env.push]⟩) Q
theorem cells_men {id : Nat} {v : AV} {l : List A1} (hm : v.men id = false) (hl : v.cells = some l) : menL id l = false := by
 cases v with
 | one x =>
  simp only [AV.cells] at hl
  cases h1 : one1 x with
  | true => rw [h1] at hl; injection hl with hl; subst hl; simpa only [menL, Bool.or_false] using (show men1 id x = false from hm)
  | false => rw [h1] at hl; cases hl
 | agg m => injection hl with hl; subst hl; exact hm
 | tup m => cases hl
theorem ev_men {id : Nat} (hf : st.fresh id = true) {x : Operand} {v : AV} (hx : st.ev x = some v) : v.men id = false := by
 obtain ⟨f1, f2, f3, f4⟩ := fresh_ok hf
 cases x with
 | tmp t => exact f3 t v hx
 | const c =>
  simp only [ASt.ev, Option.some.injEq] at hx
  subst hx
  unfold cst
  split
  ·rename_i arr
   cases arr.toList.all Value.oneCell' with
   | true =>
    show menL id (arr.toList.map cst1) = false
    generalize arr.toList = m
    induction m with
    | nil => rfl
    | cons x m ih => simp only [List.map_cons, menL, cst1_men, ih, Bool.or_false]
   | false => rfl
  ·exact cst1_men _ _
 | func f => simp only [ASt.ev, Option.some.injEq] at hx; subst hx; rfl
 | global g => cases hx
theorem op_box (h : Sat W0 E0 nl N st E a w) (hd : ∀ d, o.dst = some d → d < N) {e : TypeId} {x : Operand} (ho : o.op = .box e x) (hp : (step P Γ base o st).pre) (Q : Exit → Act → World → Prop) : o.wp P a w (After W0 E0 nl N st o (step P Γ base o st)) Q := by
 simp only [step, ho] at hp
 obtain ⟨hf, hp⟩ := bif_bad.1 hp
 obtain ⟨l, hl, _⟩ := (opt_pre _ _).1 hp
 obtain ⟨v, hx, hvl⟩ := bind_some_iff.1 hl
 have hr := cells_ok (h.ev hx) hvl
 have es : step P Γ base o st = .ret { val := .one (.ref base 0), ins := [(base, .box false l)] } := by simp only [step, ho, hf, cond_true, opt, hl]
 have hrun : (execOp a.eval o).run P w = .ok (.value (.pointer (some ⟨w.heap.size, 0, none⟩))) (w.alloc (.cells (a.eval x).cells e)) := by
  simp [execOp, ho, Instr.box, newVar, newRow, newObj, Sem.run]
 rw [es]
 exact new_op hrun (outs_ret _) (h.newBlk (v := .nilFunc) (ow := false) (dl := []) (x := .one (.ref base 0)) (u := .pointer (some ⟨w.heap.size, 0, none⟩)) hf hd (box_new h hf hr (cells_men (ev_men hf hx) hvl)) ⟨rfl, fun f vs _ => by simp [Env.push]⟩) Q
end
end Go.Proofs.YtpgglbnagphgoaaGreat
