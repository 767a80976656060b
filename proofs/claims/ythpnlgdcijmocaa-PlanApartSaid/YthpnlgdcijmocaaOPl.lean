/- Geometries and places that are arguments. -/
import Derived.Test.YthpnlgdcijmocaaOIv
import Derived.Test.YthpnlgdcijmocaaOEntE
import Derived.Test.YthpnlgdcijmocaaPl0
namespace Go.Proofs.Ythpnlgdcijmocaa
open Go.RowKit Pl
set_option linter.unusedVariables false
theorem ge_opens : OpensAs Try.prog 25 GeS.cells (fun _ e => e.fine) := fun encH w fuel cs x h hw => by
  obtain ⟨k, k1, k2⟩ := fld_int Try.underlying25 h 0 _ rfl Try.underlying3 (by kernel_rfl)
  obtain ⟨i, i1, i2⟩ := fld_int Try.underlying25 h 1 _ rfl Try.underlying3 (by kernel_rfl)
  have hl : cs.length = 2 := (struct_len Try.underlying25 h).trans (by kernel_rfl)
  exact ⟨⟨k, i⟩, list2 hl k1 i1, bounds_i64 k2, bounds_i64 i2⟩
theorem plc_opens : OpensAs Try.prog 28 PlcS.cells (fun _ e => e.fine) := fun encH w fuel cs x h hw => by
  obtain ⟨k, k1, k2⟩ := fld_int Try.underlying28 h 0 _ rfl Try.underlying3 (by kernel_rfl)
  obtain ⟨i, i1, i2⟩ := fld_int Try.underlying28 h 1 _ rfl Try.underlying3 (by kernel_rfl)
  obtain ⟨j, j1, j2⟩ := fld_int Try.underlying28 h 2 _ rfl Try.underlying3 (by kernel_rfl)
  have hl : cs.length = 3 := (struct_len Try.underlying28 h).trans (by kernel_rfl)
  exact ⟨⟨k, i, j⟩, list3 hl k1 i1 j1, bounds_i64 k2, bounds_i64 i2, bounds_i64 j2⟩
theorem len44 {n : Nat} (h : n * 8 ≤ reachBytes) : n ≤ 17592186044416 := by
  have hr : reachBytes = 140737488351232 := by decide
  omega
end Go.Proofs.Ythpnlgdcijmocaa
