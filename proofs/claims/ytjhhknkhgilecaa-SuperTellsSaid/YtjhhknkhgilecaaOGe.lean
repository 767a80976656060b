/- Geometries that are arguments. -/
import Derived.Test.YtjhhknkhgilecaaOpen3
import Derived.Test.YtjhhknkhgilecaaS1
namespace Go.Proofs.Ytjhhknkhgilecaa
open Go.RowKit Su
set_option linter.unusedVariables false
theorem ge_opens : OpensAs Try.prog 23 GeS.cells (fun _ e => e.fine) := fun encH w fuel cs x h hw => by
  obtain ⟨k, k1, k2⟩ := fld_int Try.underlying23 h 0 _ rfl Try.underlying3 (by kernel_rfl)
  obtain ⟨i, i1, i2⟩ := fld_int Try.underlying23 h 1 _ rfl Try.underlying3 (by kernel_rfl)
  have hl : cs.length = 2 := (struct_len Try.underlying23 h).trans (by kernel_rfl)
  exact ⟨⟨k, i⟩, list2 hl k1 i1, bounds_i64 k2, bounds_i64 i2⟩
end Go.Proofs.Ytjhhknkhgilecaa
