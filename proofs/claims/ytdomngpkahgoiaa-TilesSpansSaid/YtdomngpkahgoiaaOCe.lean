/- Cells that are arguments. -/
import Derived.Test.YtdomngpkahgoiaaOpen3
import Derived.Test.YtdomngpkahgoiaaTi0
namespace Go.Proofs.Ytdomngpkahgoiaa
open Go.RowKit Ti
set_option linter.unusedVariables false
theorem ce_opens : OpensAs Try.prog 32 CeS.cells (fun _ e => e.fine) := fun encH w fuel cs x h hw => by
  obtain ⟨k, k1, k2⟩ := fld_int Try.underlying32 h 0 _ rfl Try.underlying22 (by kernel_rfl)
  obtain ⟨i, i1, i2⟩ := fld_int Try.underlying32 h 1 _ rfl Try.underlying22 (by kernel_rfl)
  obtain ⟨j, j1, j2⟩ := fld_int Try.underlying32 h 2 _ rfl Try.underlying3 (by kernel_rfl)
  have hl : cs.length = 3 := (struct_len Try.underlying32 h).trans (by kernel_rfl)
  have k3 : 0 ≤ k ∧ k ≤ 4294967295 := bounds_u32 k2
  have i3 : 0 ≤ i ∧ i ≤ 4294967295 := bounds_u32 i2
  have j3 : -9223372036854775808 ≤ j ∧ j ≤ 9223372036854775807 := by simpa [Lit.wf, IntKind.min, IntKind.max, IntKind.signed, IntKind.bits] using j2
  obtain ⟨K, rfl⟩ := Int.eq_ofNat_of_zero_le k3.1
  obtain ⟨I, rfl⟩ := Int.eq_ofNat_of_zero_le i3.1
  exact ⟨⟨K, I, j⟩, list3 hl k1 i1 j1, by show K < _; omega, by show I < _; omega, j3⟩
end Go.Proofs.Ytdomngpkahgoiaa
