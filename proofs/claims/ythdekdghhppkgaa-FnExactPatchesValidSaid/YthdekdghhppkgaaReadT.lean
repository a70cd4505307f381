/- The readings of the laws' argument types, at this seat's numbers of types. -/
import Derived.Test.YthdekdghhppkgaaRows
import Derived.Test.YthdekdghhppkgaaData
import Derived.Test.YthdekdghhppkgaaRead
namespace Go.Proofs.Ythdekdghhppkgaa
open Go.RowKit
theorem rs_UInt8 : Reads Try.prog 27 (List UInt8) := reads_slice Try.underlying27 (by kernel_rfl) (by decide) (reads_u8 Try.underlying5)
theorem rs_Int : Reads Try.prog 83 (List Int) := reads_slice Try.underlying83 (by kernel_rfl) (by decide) (reads_int Try.underlying3)
theorem rs_ByteArray : Reads Try.prog 92 (List ByteArray) := reads_slice Try.underlying92 (by kernel_rfl) (by decide) (reads_string Try.underlying9)
theorem r_Img : Reads Try.prog 29 Img := fun H enc w base sp held fuel cs y h => by
  obtain ⟨x, hx⟩ := reads_fs (α := Int × List UInt8) Try.underlying29 (by kernel_rfl) (fs_cons rfl (by kernel_rfl) (reads_int Try.underlying3) (fs_one rfl (by kernel_rfl) rs_UInt8)) H enc w base sp held fuel cs y h
  exact ⟨⟨x.1, x.2⟩, hx⟩
theorem r_Patch : Reads Try.prog 86 Patch := fun H enc w base sp held fuel cs y h => by
  obtain ⟨x, hx⟩ := reads_fs (α := Int × List UInt8) Try.underlying86 (by kernel_rfl) (fs_cons rfl (by kernel_rfl) (reads_int Try.underlying3) (fs_one rfl (by kernel_rfl) rs_UInt8)) H enc w base sp held fuel cs y h
  exact ⟨⟨x.1, x.2⟩, hx⟩
theorem rs_Patch : Reads Try.prog 62 (List Patch) := reads_slice Try.underlying62 (by kernel_rfl) (by decide) r_Patch
end Go.Proofs.Ythdekdghhppkgaa
