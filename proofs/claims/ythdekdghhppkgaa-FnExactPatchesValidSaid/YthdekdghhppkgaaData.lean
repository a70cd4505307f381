/- The structs of the program as Lean's, and how each stands in memory. -/
import Derived.Test.YthdekdghhppkgaaBase
namespace Go.Proofs.Ythdekdghhppkgaa
open Go.RowKit
open Mem (rep own)

theorem u8_at_k {w : World} {F : Nat → Prop} {A : Option Addr} {l : List UInt8} (h : RepAt w F A l) (k : Nat) (hk : k < l.length) :
    ∃ b off x, A = some ⟨b, off, none⟩ ∧ F b ∧ b < w.heap.size ∧ Hid (l[k]? = some x) ∧ w.cell? ⟨b, off + k, none⟩ = some (.int .u8 (x.toNat : Int)) ∧ x.toNat < 256 := by
  obtain ⟨b, off, ecs, rfl, hF, hb, he, hc⟩ := h.at_ k hk
  obtain ⟨rfl, _⟩ := he
  have := hc 0 _ rfl
  exact ⟨b, off, l[k], rfl, hF, hb, List.getElem?_eq_getElem hk, by simpa [Mem.sz, Flat.enc] using this, UInt8.toNat_lt _⟩
theorem int_at_k {w : World} {F : Nat → Prop} {A : Option Addr} {l : List Int} (h : RepAt w F A l) (k : Nat) (hk : k < l.length) :
    ∃ b off x, A = some ⟨b, off, none⟩ ∧ F b ∧ b < w.heap.size ∧ Hid (l[k]? = some x) ∧ w.cell? ⟨b, off + k, none⟩ = some (.int .i64 x) ∧ I64 x := by
  obtain ⟨b, off, ecs, rfl, hF, hb, he, hc⟩ := h.at_ k hk
  obtain ⟨rfl, hx⟩ := he
  have := hc 0 _ rfl
  exact ⟨b, off, l[k], rfl, hF, hb, List.getElem?_eq_getElem hk, by simpa [Mem.sz, Flat.enc] using this, hx⟩
theorem str_at_k {w : World} {F : Nat → Prop} {A : Option Addr} {l : List ByteArray} (h : RepAt w F A l) (k : Nat) (hk : k < l.length) :
    ∃ b off x, A = some ⟨b, off, none⟩ ∧ F b ∧ b < w.heap.size ∧ Hid (l[k]? = some x) ∧ w.cell? ⟨b, off + k, none⟩ = some (.string x) ∧ x.size ≤ 9223372036854775807 := by
  obtain ⟨b, off, ecs, rfl, hF, hb, he, hc⟩ := h.at_ k hk
  obtain ⟨rfl, hx⟩ := he
  have := hc 0 _ rfl
  exact ⟨b, off, l[k], rfl, hF, hb, List.getElem?_eq_getElem hk, by simpa [Mem.sz, Flat.enc] using this, hx⟩
/-- An element of a list of lists. -/
theorem list_at_k {α : Type} [Mem α] {w : World} {F : Nat → Prop} {A : Option Addr} {l : List (List α)} (h : RepAt w F A l) (k : Nat) (hk : k < l.length) :
    ∃ b off x A1 c1, A = some ⟨b, off, none⟩ ∧ F b ∧ b < w.heap.size ∧ Hid (l[k]? = some x) ∧ w.cell? ⟨b, off + k, none⟩ = some (.slice A1 x.length c1) ∧ x.length ≤ c1 ∧ c1 ≤ 9223372036854775807 ∧ RepAt w F A1 x := by
  obtain ⟨b, off, ecs, rfl, hF, hb, he, hc⟩ := h.at_ k hk
  obtain ⟨A1, c1, rfl, h1, h2, h3⟩ := he
  have := hc 0 _ rfl
  exact ⟨b, off, l[k], A1, c1, rfl, hF, hb, List.getElem?_eq_getElem hk, by simpa [Mem.sz] using this, h1, h2, h3⟩
theorem own_fl {α : Type} {ty : TypeId} {F : Flat α} {w : World} {x : α} (h : F.ok x) : (Mem.flat ty F).own w [] [F.enc x] x := ⟨rfl, rfl, h⟩
theorem own_pair {α β : Type} [Mem α] [Mem β] {w : World} {l1 l2 : List Nat} {c1 c2 : List Value} {a : α} {b : β} (h1 : own w l1 c1 a) (h2 : own w l2 c2 b) (hn : (l1 ++ l2).Nodup) : own w (l1 ++ l2) (c1 ++ c2) (a, b) := ⟨c1, c2, l1, l2, rfl, rfl, hn, h1, h2⟩
theorem own_pairL {α β : Type} [Mem α] [Mem β] {w : World} {l2 : List Nat} {c1 c2 : List Value} {a : α} {b : β} (h1 : own w [] c1 a) (h2 : own w l2 c2 b) : own w l2 (c1 ++ c2) (a, b) := ⟨c1, c2, [], l2, rfl, rfl, Mem.own_nodup h2, h1, h2⟩
theorem own_pairR {α β : Type} [Mem α] [Mem β] {w : World} {l1 : List Nat} {c1 c2 : List Value} {a : α} {b : β} (h1 : own w l1 c1 a) (h2 : own w [] c2 b) : own w l1 (c1 ++ c2) (a, b) := ⟨c1, c2, l1, [], rfl, by simp, by simpa using Mem.own_nodup h1, h1, h2⟩
theorem drop_of {α : Type} {l : List α} {k : Nat} {p : α} (h : Hid (l[k]? = some p)) : l.drop k = p :: l.drop (k + 1) := by
  obtain ⟨hk, rfl⟩ := List.getElem?_eq_some_iff.1 h.out
  exact List.drop_eq_getElem_cons hk
theorem take_of {α : Type} {l : List α} {k : Nat} {p : α} (h : Hid (l[k]? = some p)) : l.take (k + 1) = l.take k ++ [p] := by
  obtain ⟨hk, rfl⟩ := List.getElem?_eq_some_iff.1 h.out
  rw [List.take_succ_eq_append_getElem hk]
theorem drop_all {α : Type} {l : List α} {k : Nat} (h : ¬ k < l.length) : l.drop k = [] := List.drop_of_length_le (Nat.le_of_not_lt h)
theorem take_all {α : Type} {l : List α} {k : Nat} (h : ¬ k < l.length) : l.take k = l := List.take_of_length_le (Nat.le_of_not_lt h)

structure Img where
  base : Int
  bytes : List UInt8
instance : Mem Img := Mem.via 32 (fun m => (m.base, m.bytes)) inferInstance
theorem Img.open_ {w : World} {F : Nat → Prop} {cs : List Value} {m : Img} (h : rep w F cs m) :
    ∃ A1 c1, cs = [.int .i64 m.base, .slice A1 m.bytes.length c1] ∧ I64 m.base ∧ m.bytes.length ≤ c1 ∧ c1 ≤ 9223372036854775807 ∧ RepAt w F A1 m.bytes := by
  obtain ⟨_, _, rfl, ⟨rfl, h1⟩, ⟨A1, c1, rfl, h2, h3, h4⟩⟩ := h
  exact ⟨A1, c1, rfl, h1, h2, h3, h4⟩
theorem Img.mk_ {w : World} {F : Nat → Prop} {m : Img} {A1 : Option Addr} {c1 : Nat} (h1 : I64 m.base) (h2 : m.bytes.length ≤ c1) (h3 : c1 ≤ 9223372036854775807) (h4 : RepAt w F A1 m.bytes) :
    rep w F [.int .i64 m.base, .slice A1 m.bytes.length c1] m := ⟨_, _, rfl, ⟨rfl, h1⟩, ⟨A1, c1, rfl, h2, h3, h4⟩⟩
theorem Img.own_mk {w : World} {m : Img} {A1 : Option Addr} {c1 : Nat} {l1 : List Nat} (g1 : I64 m.base) (o1 : own w l1 [.slice A1 m.bytes.length c1] m.bytes) :
    own w l1 [.int .i64 m.base, .slice A1 m.bytes.length c1] m := (own_pairL (own_fl (F := inferInstance) (x := m.base) g1) o1)
theorem Img.new_mk {lo : Nat} {w : World} {m : Img} {A1 : Option Addr} {c1 : Nat} (g1 : I64 m.base) (o1 : New lo w [.slice A1 m.bytes.length c1] m.bytes)   : New lo w [.int .i64 m.base, .slice A1 m.bytes.length c1] m := by
  obtain ⟨l, ho, hl⟩ := o1
  exact ⟨l, Img.own_mk g1 ho, hl⟩
theorem Img.own_open {w : World} {l : List Nat} {cs : List Value} {m : Img} (h : own w l cs m) :
    ∃ A1 c1 l1, cs = [.int .i64 m.base, .slice A1 m.bytes.length c1] ∧ l = l1 ∧ l1.Nodup ∧ I64 m.base ∧ m.bytes.length ≤ c1 ∧ c1 ≤ 9223372036854775807 ∧ own w l1 [.slice A1 m.bytes.length c1] m.bytes := by
  obtain ⟨_, _, _, _, rfl, rfl, n1, p1, q1⟩ := h
  obtain ⟨rfl, rfl, g1⟩ := p1
  obtain ⟨A1, c1, rfl, a1, b1, _⟩ := rep_list (Mem.own_rep q1)
  exact ⟨A1, c1, _, rfl, by simp, by simpa using n1, g1, a1, b1, q1⟩
theorem Img.at_k {w : World} {F : Nat → Prop} {A : Option Addr} {l : List Img} (h : RepAt w F A l) (k : Nat) (hk : k < l.length) :
    ∃ b off p A1 c1, A = some ⟨b, off, none⟩ ∧ F b ∧ b < w.heap.size ∧ Hid (l[k]? = some p) ∧ w.cell? ⟨b, off + k * 2, none⟩ = some (.int .i64 p.base) ∧ w.cell? ⟨b, off + k * 2 + 1, none⟩ = some (.slice A1 p.bytes.length c1) ∧ I64 p.base ∧ p.bytes.length ≤ c1 ∧ c1 ≤ 9223372036854775807 ∧ RepAt w F A1 p.bytes ∧ rep w F [.int .i64 p.base, .slice A1 p.bytes.length c1] p := by
  obtain ⟨b, off, ecs, rfl, hF, hb, he, hc⟩ := h.at_ k hk
  have he' := he
  obtain ⟨A1, c1, rfl, f0, f1, f2, f3⟩ := Img.open_ he
  exact ⟨b, off, l[k], A1, c1, rfl, hF, hb, List.getElem?_eq_getElem hk, hc 0 _ rfl, hc 1 _ rfl, f0, f1, f2, f3, he'⟩
structure Patch where
  at_ : Int
  bytes : List UInt8
instance : Mem Patch := Mem.via 49 (fun m => (m.at_, m.bytes)) inferInstance
theorem Patch.open_ {w : World} {F : Nat → Prop} {cs : List Value} {m : Patch} (h : rep w F cs m) :
    ∃ A1 c1, cs = [.int .i64 m.at_, .slice A1 m.bytes.length c1] ∧ I64 m.at_ ∧ m.bytes.length ≤ c1 ∧ c1 ≤ 9223372036854775807 ∧ RepAt w F A1 m.bytes := by
  obtain ⟨_, _, rfl, ⟨rfl, h1⟩, ⟨A1, c1, rfl, h2, h3, h4⟩⟩ := h
  exact ⟨A1, c1, rfl, h1, h2, h3, h4⟩
theorem Patch.mk_ {w : World} {F : Nat → Prop} {m : Patch} {A1 : Option Addr} {c1 : Nat} (h1 : I64 m.at_) (h2 : m.bytes.length ≤ c1) (h3 : c1 ≤ 9223372036854775807) (h4 : RepAt w F A1 m.bytes) :
    rep w F [.int .i64 m.at_, .slice A1 m.bytes.length c1] m := ⟨_, _, rfl, ⟨rfl, h1⟩, ⟨A1, c1, rfl, h2, h3, h4⟩⟩
theorem Patch.own_mk {w : World} {m : Patch} {A1 : Option Addr} {c1 : Nat} {l1 : List Nat} (g1 : I64 m.at_) (o1 : own w l1 [.slice A1 m.bytes.length c1] m.bytes) :
    own w l1 [.int .i64 m.at_, .slice A1 m.bytes.length c1] m := (own_pairL (own_fl (F := inferInstance) (x := m.at_) g1) o1)
theorem Patch.new_mk {lo : Nat} {w : World} {m : Patch} {A1 : Option Addr} {c1 : Nat} (g1 : I64 m.at_) (o1 : New lo w [.slice A1 m.bytes.length c1] m.bytes)   : New lo w [.int .i64 m.at_, .slice A1 m.bytes.length c1] m := by
  obtain ⟨l, ho, hl⟩ := o1
  exact ⟨l, Patch.own_mk g1 ho, hl⟩
theorem Patch.own_open {w : World} {l : List Nat} {cs : List Value} {m : Patch} (h : own w l cs m) :
    ∃ A1 c1 l1, cs = [.int .i64 m.at_, .slice A1 m.bytes.length c1] ∧ l = l1 ∧ l1.Nodup ∧ I64 m.at_ ∧ m.bytes.length ≤ c1 ∧ c1 ≤ 9223372036854775807 ∧ own w l1 [.slice A1 m.bytes.length c1] m.bytes := by
  obtain ⟨_, _, _, _, rfl, rfl, n1, p1, q1⟩ := h
  obtain ⟨rfl, rfl, g1⟩ := p1
  obtain ⟨A1, c1, rfl, a1, b1, _⟩ := rep_list (Mem.own_rep q1)
  exact ⟨A1, c1, _, rfl, by simp, by simpa using n1, g1, a1, b1, q1⟩
theorem Patch.at_k {w : World} {F : Nat → Prop} {A : Option Addr} {l : List Patch} (h : RepAt w F A l) (k : Nat) (hk : k < l.length) :
    ∃ b off p A1 c1, A = some ⟨b, off, none⟩ ∧ F b ∧ b < w.heap.size ∧ Hid (l[k]? = some p) ∧ w.cell? ⟨b, off + k * 2, none⟩ = some (.int .i64 p.at_) ∧ w.cell? ⟨b, off + k * 2 + 1, none⟩ = some (.slice A1 p.bytes.length c1) ∧ I64 p.at_ ∧ p.bytes.length ≤ c1 ∧ c1 ≤ 9223372036854775807 ∧ RepAt w F A1 p.bytes ∧ rep w F [.int .i64 p.at_, .slice A1 p.bytes.length c1] p := by
  obtain ⟨b, off, ecs, rfl, hF, hb, he, hc⟩ := h.at_ k hk
  have he' := he
  obtain ⟨A1, c1, rfl, f0, f1, f2, f3⟩ := Patch.open_ he
  exact ⟨b, off, l[k], A1, c1, rfl, hF, hb, List.getElem?_eq_getElem hk, hc 0 _ rfl, hc 1 _ rfl, f0, f1, f2, f3, he'⟩
structure Region where
  from_ : Int
  to : Int
  write : Bool
  run : Bool
instance : Mem Region := Mem.via 56 (fun m => (m.from_, m.to, m.write, m.run)) inferInstance
theorem Region.open_ {w : World} {F : Nat → Prop} {cs : List Value} {m : Region} (h : rep w F cs m) :
    cs = [.int .i64 m.from_, .int .i64 m.to, .bool m.write, .bool m.run] ∧ I64 m.from_ ∧ I64 m.to := by
  obtain ⟨_, _, rfl, ⟨rfl, h1⟩, ⟨_, _, rfl, ⟨rfl, h2⟩, ⟨_, _, rfl, ⟨rfl, _⟩, ⟨rfl, _⟩⟩⟩⟩ := h
  exact ⟨rfl, h1, h2⟩
theorem Region.mk_ {w : World} {F : Nat → Prop} {m : Region} (h1 : I64 m.from_) (h2 : I64 m.to) :
    rep w F [.int .i64 m.from_, .int .i64 m.to, .bool m.write, .bool m.run] m := ⟨_, _, rfl, ⟨rfl, h1⟩, ⟨_, _, rfl, ⟨rfl, h2⟩, ⟨_, _, rfl, ⟨rfl, trivial⟩, ⟨rfl, trivial⟩⟩⟩⟩
theorem Region.own_mk {w : World} {m : Region} (g1 : I64 m.from_) (g2 : I64 m.to)  :
    own w [] [.int .i64 m.from_, .int .i64 m.to, .bool m.write, .bool m.run] m := (own_pairL (own_fl (F := inferInstance) (x := m.from_) g1) (own_pairL (own_fl (F := inferInstance) (x := m.to) g2) (own_pairL (own_fl (F := inferInstance) (x := m.write) trivial) (own_fl (F := inferInstance) (x := m.run) trivial))))
theorem Region.new_mk {lo : Nat} {w : World} {m : Region} (g1 : I64 m.from_) (g2 : I64 m.to)   : New lo w [.int .i64 m.from_, .int .i64 m.to, .bool m.write, .bool m.run] m := ⟨[], Region.own_mk g1 g2, fun b hb => by cases hb⟩
theorem Region.own_open {w : World} {l : List Nat} {cs : List Value} {m : Region} (h : own w l cs m) :
    cs = [.int .i64 m.from_, .int .i64 m.to, .bool m.write, .bool m.run] ∧ l = [] ∧ I64 m.from_ ∧ I64 m.to := by
  obtain ⟨_, _, _, _, rfl, rfl, n1, p1, q1⟩ := h
  obtain ⟨rfl, rfl, g1⟩ := p1
  obtain ⟨_, _, _, _, rfl, rfl, n2, p2, q2⟩ := q1
  obtain ⟨rfl, rfl, g2⟩ := p2
  obtain ⟨_, _, _, _, rfl, rfl, n3, p3, q3⟩ := q2
  obtain ⟨rfl, rfl, _⟩ := p3
  obtain ⟨rfl, rfl, _⟩ := q3
  exact ⟨rfl, by simp, g1, g2⟩
theorem Region.at_k {w : World} {F : Nat → Prop} {A : Option Addr} {l : List Region} (h : RepAt w F A l) (k : Nat) (hk : k < l.length) :
    ∃ b off p, A = some ⟨b, off, none⟩ ∧ F b ∧ b < w.heap.size ∧ Hid (l[k]? = some p) ∧ w.cell? ⟨b, off + k * 4, none⟩ = some (.int .i64 p.from_) ∧ w.cell? ⟨b, off + k * 4 + 1, none⟩ = some (.int .i64 p.to) ∧ w.cell? ⟨b, off + k * 4 + 2, none⟩ = some (.bool p.write) ∧ w.cell? ⟨b, off + k * 4 + 3, none⟩ = some (.bool p.run) ∧ I64 p.from_ ∧ I64 p.to ∧ rep w F [.int .i64 p.from_, .int .i64 p.to, .bool p.write, .bool p.run] p := by
  obtain ⟨b, off, ecs, rfl, hF, hb, he, hc⟩ := h.at_ k hk
  have he' := he
  obtain ⟨rfl, f0, f1⟩ := Region.open_ he
  exact ⟨b, off, l[k], rfl, hF, hb, List.getElem?_eq_getElem hk, hc 0 _ rfl, hc 1 _ rfl, hc 2 _ rfl, hc 3 _ rfl, f0, f1, he'⟩
structure Memo where
  what : Img
  regions : List Region
instance : Mem Memo := Mem.via 52 (fun m => (m.what, m.regions)) inferInstance
theorem Memo.open_ {w : World} {F : Nat → Prop} {cs : List Value} {m : Memo} (h : rep w F cs m) :
    ∃ A1 c1 A2 c2, cs = [.int .i64 m.what.base, .slice A1 m.what.bytes.length c1, .slice A2 m.regions.length c2] ∧ I64 m.what.base ∧ m.what.bytes.length ≤ c1 ∧ c1 ≤ 9223372036854775807 ∧ RepAt w F A1 m.what.bytes ∧ m.regions.length ≤ c2 ∧ c2 ≤ 9223372036854775807 ∧ RepAt w F A2 m.regions := by
  obtain ⟨_, _, rfl, ⟨_, _, rfl, ⟨rfl, h1⟩, ⟨A1, c1, rfl, h2, h3, h4⟩⟩, ⟨A2, c2, rfl, h5, h6, h7⟩⟩ := h
  exact ⟨A1, c1, A2, c2, rfl, h1, h2, h3, h4, h5, h6, h7⟩
theorem Memo.mk_ {w : World} {F : Nat → Prop} {m : Memo} {A1 : Option Addr} {c1 : Nat} {A2 : Option Addr} {c2 : Nat} (h1 : I64 m.what.base) (h2 : m.what.bytes.length ≤ c1) (h3 : c1 ≤ 9223372036854775807) (h4 : RepAt w F A1 m.what.bytes) (h5 : m.regions.length ≤ c2) (h6 : c2 ≤ 9223372036854775807) (h7 : RepAt w F A2 m.regions) :
    rep w F [.int .i64 m.what.base, .slice A1 m.what.bytes.length c1, .slice A2 m.regions.length c2] m := ⟨_, _, rfl, ⟨_, _, rfl, ⟨rfl, h1⟩, ⟨A1, c1, rfl, h2, h3, h4⟩⟩, ⟨A2, c2, rfl, h5, h6, h7⟩⟩
theorem Memo.own_mk {w : World} {m : Memo} {A1 : Option Addr} {c1 : Nat} {A2 : Option Addr} {c2 : Nat} {l1 : List Nat} {l2 : List Nat} (g1 : I64 m.what.base) (o1 : own w l1 [.slice A1 m.what.bytes.length c1] m.what.bytes) (o2 : own w l2 [.slice A2 m.regions.length c2] m.regions) (hn : (l1 ++ l2).Nodup) :
    own w (l1 ++ l2) [.int .i64 m.what.base, .slice A1 m.what.bytes.length c1, .slice A2 m.regions.length c2] m := (own_pair (show own w _ _ m.what from (own_pairL (own_fl (F := inferInstance) (x := m.what.base) g1) o1)) o2 hn)
theorem Memo.own_open {w : World} {l : List Nat} {cs : List Value} {m : Memo} (h : own w l cs m) :
    ∃ A1 c1 A2 c2 l1 l2, cs = [.int .i64 m.what.base, .slice A1 m.what.bytes.length c1, .slice A2 m.regions.length c2] ∧ l = (l1 ++ l2) ∧ (l1 ++ l2).Nodup ∧ I64 m.what.base ∧ m.what.bytes.length ≤ c1 ∧ c1 ≤ 9223372036854775807 ∧ own w l1 [.slice A1 m.what.bytes.length c1] m.what.bytes ∧ m.regions.length ≤ c2 ∧ c2 ≤ 9223372036854775807 ∧ own w l2 [.slice A2 m.regions.length c2] m.regions := by
  obtain ⟨_, _, _, _, rfl, rfl, n1, p1, q1⟩ := h
  obtain ⟨_, _, _, _, rfl, rfl, n2, p2, q2⟩ := p1
  obtain ⟨rfl, rfl, g1⟩ := p2
  obtain ⟨A1, c1, rfl, a1, b1, _⟩ := rep_list (Mem.own_rep q2)
  obtain ⟨A2, c2, rfl, a2, b2, _⟩ := rep_list (Mem.own_rep q1)
  exact ⟨A1, c1, A2, c2, _, _, rfl, by simp, by simpa using n1, g1, a1, b1, q2, a2, b2, q1⟩
theorem Memo.at_k {w : World} {F : Nat → Prop} {A : Option Addr} {l : List Memo} (h : RepAt w F A l) (k : Nat) (hk : k < l.length) :
    ∃ b off p A1 c1 A2 c2, A = some ⟨b, off, none⟩ ∧ F b ∧ b < w.heap.size ∧ Hid (l[k]? = some p) ∧ w.cell? ⟨b, off + k * 3, none⟩ = some (.int .i64 p.what.base) ∧ w.cell? ⟨b, off + k * 3 + 1, none⟩ = some (.slice A1 p.what.bytes.length c1) ∧ w.cell? ⟨b, off + k * 3 + 2, none⟩ = some (.slice A2 p.regions.length c2) ∧ I64 p.what.base ∧ p.what.bytes.length ≤ c1 ∧ c1 ≤ 9223372036854775807 ∧ RepAt w F A1 p.what.bytes ∧ p.regions.length ≤ c2 ∧ c2 ≤ 9223372036854775807 ∧ RepAt w F A2 p.regions ∧ rep w F [.int .i64 p.what.base, .slice A1 p.what.bytes.length c1, .slice A2 p.regions.length c2] p := by
  obtain ⟨b, off, ecs, rfl, hF, hb, he, hc⟩ := h.at_ k hk
  have he' := he
  obtain ⟨A1, c1, A2, c2, rfl, f0, f1, f2, f3, f4, f5, f6⟩ := Memo.open_ he
  exact ⟨b, off, l[k], A1, c1, A2, c2, rfl, hF, hb, List.getElem?_eq_getElem hk, hc 0 _ rfl, hc 1 _ rfl, hc 2 _ rfl, f0, f1, f2, f3, f4, f5, f6, he'⟩
end Go.Proofs.Ythdekdghhppkgaa
