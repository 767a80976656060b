/- Points that are arguments. -/
import Derived.Test.YtjhhknkhgilecaaOpen3
import Derived.Test.YtjhhknkhgilecaaPtD
namespace Go.Proofs.Ytjhhknkhgilecaa
open Go.RowKit Pt
set_option linter.unusedVariables false
theorem pt_opens : OpensAs Try.prog 41 PtS.cells (fun _ e => e.fine) := fun encH w fuel cs x h hw => by
  obtain ⟨k, k1, k2⟩ := fld_int Try.underlying41 h 0 _ rfl Try.underlying3 (by kernel_rfl)
  obtain ⟨i, i1, i2⟩ := fld_int Try.underlying41 h 1 _ rfl Try.underlying39 (by kernel_rfl)
  obtain ⟨j, j1, j2⟩ := fld_int Try.underlying41 h 2 _ rfl Try.underlying39 (by kernel_rfl)
  have hl : cs.length = 4 := (struct_len Try.underlying41 h).trans (by kernel_rfl)
  obtain ⟨s, s1, s2⟩ := fld_string Try.underlying41 h hw 3 _ rfl Try.underlying9 (by kernel_rfl)
  have i3 : 0 ≤ i ∧ i ≤ 4294967295 := bounds_u32 i2
  have j3 : 0 ≤ j ∧ j ≤ 4294967295 := bounds_u32 j2
  obtain ⟨I, rfl⟩ := Int.eq_ofNat_of_zero_le i3.1
  obtain ⟨J, rfl⟩ := Int.eq_ofNat_of_zero_le j3.1
  exact ⟨⟨k, I, J, s⟩, list4 hl k1 i1 j1 s1, bounds_i64 k2, by show I < _; omega, by show J < _; omega, Nat.le_trans s2 (by decide)⟩
end Go.Proofs.Ytjhhknkhgilecaa
