/- Entries that are arguments. -/
import Derived.Test.YthpnlgdcijmocaaOpen3
import Derived.Test.YthpnlgdcijmocaaEnt
namespace Go.Proofs.Ythpnlgdcijmocaa
open Go.RowKit
set_option linter.unusedVariables false
theorem ent_opens : OpensAs Try.prog 39 EntS.cells (fun _ e => e.fine) := fun encH w fuel cs x h hw => by
  obtain ⟨k, k1, k2⟩ := fld_int Try.underlying39 h 0 _ rfl Try.underlying3 (by kernel_rfl)
  obtain ⟨i, i1, i2⟩ := fld_int Try.underlying39 h 1 _ rfl Try.underlying3 (by kernel_rfl)
  have hl : cs.length = 2 := (struct_len Try.underlying39 h).trans (by kernel_rfl)
  exact ⟨⟨k, i⟩, list2 hl k1 i1, bounds_i64 k2, bounds_i64 i2⟩
theorem len1 {n : Nat} (h : n * Try.prog.bytesOf 39 ≤ reachBytes) : n ≤ 140737488355328 := by
  have hby : Try.prog.bytesOf 39 = 16 := by kernel_rfl
  rw [hby] at h
  have hr : reachBytes = 140737488351232 := by decide
  omega
theorem len8 {n : Nat} (h : n * 8 ≤ reachBytes) : n ≤ 140737488355328 := by
  have hr : reachBytes = 140737488351232 := by decide
  omega
end Go.Proofs.Ythpnlgdcijmocaa
