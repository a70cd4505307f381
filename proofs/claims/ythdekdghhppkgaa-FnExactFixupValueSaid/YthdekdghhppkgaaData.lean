/- The structs of the program as Lean's, and how each stands in memory. -/
import Derived.Test.YthdekdghhppkgaaBase
namespace Go.Proofs.Ythdekdghhppkgaa
open Go.RowKit
open Mem (rep own)

theorem u8_at_k {w : World} {F : Nat → Prop} {A : Option Addr} {l : List UInt8} (h : RepAt w F A l) (k : Nat) (hk : k < l.length) :
    ∃ b off x, A = some ⟨b, off, none⟩ ∧ F b ∧ b < w.heap.size ∧ Hid (l[k]? = some x) ∧ w.cell? ⟨b, off + k, none⟩ = some (.int .u8 (x.toNat : Int)) ∧ x.toNat < 256 := by
  obtain ⟨b, off, ecs, rfl, hF, hb, he, hc⟩ := h.at_ k hk
  obtain ⟨rfl, _⟩ := he
  have := hc 0 _ rfl
  exact ⟨b, off, l[k], rfl, hF, hb, List.getElem?_eq_getElem hk, by simpa [Mem.sz, Flat.enc] using this, UInt8.toNat_lt _⟩
theorem int_at_k {w : World} {F : Nat → Prop} {A : Option Addr} {l : List Int} (h : RepAt w F A l) (k : Nat) (hk : k < l.length) :
    ∃ b off x, A = some ⟨b, off, none⟩ ∧ F b ∧ b < w.heap.size ∧ Hid (l[k]? = some x) ∧ w.cell? ⟨b, off + k, none⟩ = some (.int .i64 x) ∧ I64 x := by
  obtain ⟨b, off, ecs, rfl, hF, hb, he, hc⟩ := h.at_ k hk
  obtain ⟨rfl, hx⟩ := he
  have := hc 0 _ rfl
  exact ⟨b, off, l[k], rfl, hF, hb, List.getElem?_eq_getElem hk, by simpa [Mem.sz, Flat.enc] using this, hx⟩
theorem str_at_k {w : World} {F : Nat → Prop} {A : Option Addr} {l : List ByteArray} (h : RepAt w F A l) (k : Nat) (hk : k < l.length) :
    ∃ b off x, A = some ⟨b, off, none⟩ ∧ F b ∧ b < w.heap.size ∧ Hid (l[k]? = some x) ∧ w.cell? ⟨b, off + k, none⟩ = some (.string x) ∧ x.size ≤ 9223372036854775807 := by
  obtain ⟨b, off, ecs, rfl, hF, hb, he, hc⟩ := h.at_ k hk
  obtain ⟨rfl, hx⟩ := he
  have := hc 0 _ rfl
  exact ⟨b, off, l[k], rfl, hF, hb, List.getElem?_eq_getElem hk, by simpa [Mem.sz, Flat.enc] using this, hx⟩
/-- An element of a list of lists. -/
theorem list_at_k {α : Type} [Mem α] {w : World} {F : Nat → Prop} {A : Option Addr} {l : List (List α)} (h : RepAt w F A l) (k : Nat) (hk : k < l.length) :
    ∃ b off x A1 c1, A = some ⟨b, off, none⟩ ∧ F b ∧ b < w.heap.size ∧ Hid (l[k]? = some x) ∧ w.cell? ⟨b, off + k, none⟩ = some (.slice A1 x.length c1) ∧ x.length ≤ c1 ∧ c1 ≤ 9223372036854775807 ∧ RepAt w F A1 x := by
  obtain ⟨b, off, ecs, rfl, hF, hb, he, hc⟩ := h.at_ k hk
  obtain ⟨A1, c1, rfl, h1, h2, h3⟩ := he
  have := hc 0 _ rfl
  exact ⟨b, off, l[k], A1, c1, rfl, hF, hb, List.getElem?_eq_getElem hk, by simpa [Mem.sz] using this, h1, h2, h3⟩
theorem drop_of {α : Type} {l : List α} {k : Nat} {p : α} (h : Hid (l[k]? = some p)) : l.drop k = p :: l.drop (k + 1) := by
  obtain ⟨hk, rfl⟩ := List.getElem?_eq_some_iff.1 h.out
  exact List.drop_eq_getElem_cons hk
theorem take_of {α : Type} {l : List α} {k : Nat} {p : α} (h : Hid (l[k]? = some p)) : l.take (k + 1) = l.take k ++ [p] := by
  obtain ⟨hk, rfl⟩ := List.getElem?_eq_some_iff.1 h.out
  rw [List.take_succ_eq_append_getElem hk]
theorem drop_all {α : Type} {l : List α} {k : Nat} (h : ¬ k < l.length) : l.drop k = [] := List.drop_of_length_le (Nat.le_of_not_lt h)
theorem take_all {α : Type} {l : List α} {k : Nat} (h : ¬ k < l.length) : l.take k = l := List.take_of_length_le (Nat.le_of_not_lt h)

structure Img where
  base : Int
  bytes : List UInt8
instance : Mem Img := Mem.via 32 (fun m => (m.base, m.bytes)) inferInstance
theorem Img.open_ {w : World} {F : Nat → Prop} {cs : List Value} {m : Img} (h : rep w F cs m) :
    ∃ A1 c1, cs = [.int .i64 m.base, .slice A1 m.bytes.length c1] ∧ I64 m.base ∧ m.bytes.length ≤ c1 ∧ c1 ≤ 9223372036854775807 ∧ RepAt w F A1 m.bytes := by
  obtain ⟨_, _, rfl, ⟨rfl, h1⟩, ⟨A1, c1, rfl, h2, h3, h4⟩⟩ := h
  exact ⟨A1, c1, rfl, h1, h2, h3, h4⟩
theorem Img.mk_ {w : World} {F : Nat → Prop} {m : Img} {A1 : Option Addr} {c1 : Nat} (h1 : I64 m.base) (h2 : m.bytes.length ≤ c1) (h3 : c1 ≤ 9223372036854775807) (h4 : RepAt w F A1 m.bytes) :
    rep w F [.int .i64 m.base, .slice A1 m.bytes.length c1] m := ⟨_, _, rfl, ⟨rfl, h1⟩, ⟨A1, c1, rfl, h2, h3, h4⟩⟩
theorem Img.at_k {w : World} {F : Nat → Prop} {A : Option Addr} {l : List Img} (h : RepAt w F A l) (k : Nat) (hk : k < l.length) :
    ∃ b off p A1 c1, A = some ⟨b, off, none⟩ ∧ F b ∧ b < w.heap.size ∧ Hid (l[k]? = some p) ∧ w.cell? ⟨b, off + k * 2, none⟩ = some (.int .i64 p.base) ∧ w.cell? ⟨b, off + k * 2 + 1, none⟩ = some (.slice A1 p.bytes.length c1) ∧ I64 p.base ∧ p.bytes.length ≤ c1 ∧ c1 ≤ 9223372036854775807 ∧ RepAt w F A1 p.bytes ∧ rep w F [.int .i64 p.base, .slice A1 p.bytes.length c1] p := by
  obtain ⟨b, off, ecs, rfl, hF, hb, he, hc⟩ := h.at_ k hk
  have he' := he
  obtain ⟨A1, c1, rfl, f0, f1, f2, f3⟩ := Img.open_ he
  exact ⟨b, off, l[k], A1, c1, rfl, hF, hb, List.getElem?_eq_getElem hk, hc 0 _ rfl, hc 1 _ rfl, f0, f1, f2, f3, he'⟩
structure Patch where
  at_ : Int
  bytes : List UInt8
instance : Mem Patch := Mem.via 49 (fun m => (m.at_, m.bytes)) inferInstance
theorem Patch.open_ {w : World} {F : Nat → Prop} {cs : List Value} {m : Patch} (h : rep w F cs m) :
    ∃ A1 c1, cs = [.int .i64 m.at_, .slice A1 m.bytes.length c1] ∧ I64 m.at_ ∧ m.bytes.length ≤ c1 ∧ c1 ≤ 9223372036854775807 ∧ RepAt w F A1 m.bytes := by
  obtain ⟨_, _, rfl, ⟨rfl, h1⟩, ⟨A1, c1, rfl, h2, h3, h4⟩⟩ := h
  exact ⟨A1, c1, rfl, h1, h2, h3, h4⟩
theorem Patch.mk_ {w : World} {F : Nat → Prop} {m : Patch} {A1 : Option Addr} {c1 : Nat} (h1 : I64 m.at_) (h2 : m.bytes.length ≤ c1) (h3 : c1 ≤ 9223372036854775807) (h4 : RepAt w F A1 m.bytes) :
    rep w F [.int .i64 m.at_, .slice A1 m.bytes.length c1] m := ⟨_, _, rfl, ⟨rfl, h1⟩, ⟨A1, c1, rfl, h2, h3, h4⟩⟩
theorem Patch.at_k {w : World} {F : Nat → Prop} {A : Option Addr} {l : List Patch} (h : RepAt w F A l) (k : Nat) (hk : k < l.length) :
    ∃ b off p A1 c1, A = some ⟨b, off, none⟩ ∧ F b ∧ b < w.heap.size ∧ Hid (l[k]? = some p) ∧ w.cell? ⟨b, off + k * 2, none⟩ = some (.int .i64 p.at_) ∧ w.cell? ⟨b, off + k * 2 + 1, none⟩ = some (.slice A1 p.bytes.length c1) ∧ I64 p.at_ ∧ p.bytes.length ≤ c1 ∧ c1 ≤ 9223372036854775807 ∧ RepAt w F A1 p.bytes ∧ rep w F [.int .i64 p.at_, .slice A1 p.bytes.length c1] p := by
  obtain ⟨b, off, ecs, rfl, hF, hb, he, hc⟩ := h.at_ k hk
  have he' := he
  obtain ⟨A1, c1, rfl, f0, f1, f2, f3⟩ := Patch.open_ he
  exact ⟨b, off, l[k], A1, c1, rfl, hF, hb, List.getElem?_eq_getElem hk, hc 0 _ rfl, hc 1 _ rfl, f0, f1, f2, f3, he'⟩
structure Region where
  from_ : Int
  to : Int
  write : Bool
  run : Bool
instance : Mem Region := Mem.via 56 (fun m => (m.from_, m.to, m.write, m.run)) inferInstance
theorem Region.open_ {w : World} {F : Nat → Prop} {cs : List Value} {m : Region} (h : rep w F cs m) :
    cs = [.int .i64 m.from_, .int .i64 m.to, .bool m.write, .bool m.run] ∧ I64 m.from_ ∧ I64 m.to := by
  obtain ⟨_, _, rfl, ⟨rfl, h1⟩, ⟨_, _, rfl, ⟨rfl, h2⟩, ⟨_, _, rfl, ⟨rfl, _⟩, ⟨rfl, _⟩⟩⟩⟩ := h
  exact ⟨rfl, h1, h2⟩
theorem Region.mk_ {w : World} {F : Nat → Prop} {m : Region} (h1 : I64 m.from_) (h2 : I64 m.to) :
    rep w F [.int .i64 m.from_, .int .i64 m.to, .bool m.write, .bool m.run] m := ⟨_, _, rfl, ⟨rfl, h1⟩, ⟨_, _, rfl, ⟨rfl, h2⟩, ⟨_, _, rfl, ⟨rfl, trivial⟩, ⟨rfl, trivial⟩⟩⟩⟩
theorem Region.at_k {w : World} {F : Nat → Prop} {A : Option Addr} {l : List Region} (h : RepAt w F A l) (k : Nat) (hk : k < l.length) :
    ∃ b off p, A = some ⟨b, off, none⟩ ∧ F b ∧ b < w.heap.size ∧ Hid (l[k]? = some p) ∧ w.cell? ⟨b, off + k * 4, none⟩ = some (.int .i64 p.from_) ∧ w.cell? ⟨b, off + k * 4 + 1, none⟩ = some (.int .i64 p.to) ∧ w.cell? ⟨b, off + k * 4 + 2, none⟩ = some (.bool p.write) ∧ w.cell? ⟨b, off + k * 4 + 3, none⟩ = some (.bool p.run) ∧ I64 p.from_ ∧ I64 p.to ∧ rep w F [.int .i64 p.from_, .int .i64 p.to, .bool p.write, .bool p.run] p := by
  obtain ⟨b, off, ecs, rfl, hF, hb, he, hc⟩ := h.at_ k hk
  have he' := he
  obtain ⟨rfl, f0, f1⟩ := Region.open_ he
  exact ⟨b, off, l[k], rfl, hF, hb, List.getElem?_eq_getElem hk, hc 0 _ rfl, hc 1 _ rfl, hc 2 _ rfl, hc 3 _ rfl, f0, f1, he'⟩
structure Memo where
  what : Img
  regions : List Region
instance : Mem Memo := Mem.via 52 (fun m => (m.what, m.regions)) inferInstance
theorem Memo.open_ {w : World} {F : Nat → Prop} {cs : List Value} {m : Memo} (h : rep w F cs m) :
    ∃ A1 c1 A2 c2, cs = [.int .i64 m.what.base, .slice A1 m.what.bytes.length c1, .slice A2 m.regions.length c2] ∧ I64 m.what.base ∧ m.what.bytes.length ≤ c1 ∧ c1 ≤ 9223372036854775807 ∧ RepAt w F A1 m.what.bytes ∧ m.regions.length ≤ c2 ∧ c2 ≤ 9223372036854775807 ∧ RepAt w F A2 m.regions := by
  obtain ⟨_, _, rfl, ⟨_, _, rfl, ⟨rfl, h1⟩, ⟨A1, c1, rfl, h2, h3, h4⟩⟩, ⟨A2, c2, rfl, h5, h6, h7⟩⟩ := h
  exact ⟨A1, c1, A2, c2, rfl, h1, h2, h3, h4, h5, h6, h7⟩
theorem Memo.mk_ {w : World} {F : Nat → Prop} {m : Memo} {A1 : Option Addr} {c1 : Nat} {A2 : Option Addr} {c2 : Nat} (h1 : I64 m.what.base) (h2 : m.what.bytes.length ≤ c1) (h3 : c1 ≤ 9223372036854775807) (h4 : RepAt w F A1 m.what.bytes) (h5 : m.regions.length ≤ c2) (h6 : c2 ≤ 9223372036854775807) (h7 : RepAt w F A2 m.regions) :
    rep w F [.int .i64 m.what.base, .slice A1 m.what.bytes.length c1, .slice A2 m.regions.length c2] m := ⟨_, _, rfl, ⟨_, _, rfl, ⟨rfl, h1⟩, ⟨A1, c1, rfl, h2, h3, h4⟩⟩, ⟨A2, c2, rfl, h5, h6, h7⟩⟩
theorem Memo.at_k {w : World} {F : Nat → Prop} {A : Option Addr} {l : List Memo} (h : RepAt w F A l) (k : Nat) (hk : k < l.length) :
    ∃ b off p A1 c1 A2 c2, A = some ⟨b, off, none⟩ ∧ F b ∧ b < w.heap.size ∧ Hid (l[k]? = some p) ∧ w.cell? ⟨b, off + k * 3, none⟩ = some (.int .i64 p.what.base) ∧ w.cell? ⟨b, off + k * 3 + 1, none⟩ = some (.slice A1 p.what.bytes.length c1) ∧ w.cell? ⟨b, off + k * 3 + 2, none⟩ = some (.slice A2 p.regions.length c2) ∧ I64 p.what.base ∧ p.what.bytes.length ≤ c1 ∧ c1 ≤ 9223372036854775807 ∧ RepAt w F A1 p.what.bytes ∧ p.regions.length ≤ c2 ∧ c2 ≤ 9223372036854775807 ∧ RepAt w F A2 p.regions ∧ rep w F [.int .i64 p.what.base, .slice A1 p.what.bytes.length c1, .slice A2 p.regions.length c2] p := by
  obtain ⟨b, off, ecs, rfl, hF, hb, he, hc⟩ := h.at_ k hk
  have he' := he
  obtain ⟨A1, c1, A2, c2, rfl, f0, f1, f2, f3, f4, f5, f6⟩ := Memo.open_ he
  exact ⟨b, off, l[k], A1, c1, A2, c2, rfl, hF, hb, List.getElem?_eq_getElem hk, hc 0 _ rfl, hc 1 _ rfl, hc 2 _ rfl, f0, f1, f2, f3, f4, f5, f6, he'⟩
end Go.Proofs.Ythdekdghhppkgaa
