/- Stamps that are arguments. -/
import Derived.Test.YtjhhknkhgilecaaOpen3
import Derived.Test.YtjhhknkhgilecaaF0
namespace Go.Proofs.Ytjhhknkhgilecaa
open Go.RowKit Fm
set_option linter.unusedVariables false
theorem st_opens : OpensAs Try.prog 32 StS.cells (fun _ e => e.fine) := fun encH w fuel cs x h hw => by
  obtain ⟨k, k1, k2⟩ := fld_int Try.underlying32 h 0 _ rfl Try.underlying3 (by kernel_rfl)
  obtain ⟨i, i1, i2⟩ := fld_int Try.underlying32 h 1 _ rfl Try.underlying3 (by kernel_rfl)
  obtain ⟨j, j1, j2⟩ := fld_int Try.underlying32 h 2 _ rfl Try.underlying3 (by kernel_rfl)
  have hl : cs.length = 3 := (struct_len Try.underlying32 h).trans (by kernel_rfl)
  exact ⟨⟨k, i, j⟩, list3 hl k1 i1 j1, bounds_i64 k2, bounds_i64 i2, bounds_i64 j2⟩
end Go.Proofs.Ytjhhknkhgilecaa
