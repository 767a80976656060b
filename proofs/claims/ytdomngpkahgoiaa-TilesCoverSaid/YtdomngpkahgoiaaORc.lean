/- Windows that are arguments. -/
import Derived.Test.YtdomngpkahgoiaaOpen3
import Derived.Test.YtdomngpkahgoiaaRc
namespace Go.Proofs.Ytdomngpkahgoiaa
open Go.RowKit Ti
set_option linter.unusedVariables false
def rcc (r : RcS) : List Value := [.int .u32 (r.x0 : Nat), .int .u32 (r.y0 : Nat), .int .u32 (r.x1 : Nat), .int .u32 (r.y1 : Nat)]
theorem rc_opens : OpensAs Try.prog 24 rcc (fun _ e => e.fine) := fun encH w fuel cs x h hw => by
  obtain ⟨k, k1, k2⟩ := fld_int Try.underlying24 h 0 _ rfl Try.underlying22 (by kernel_rfl)
  obtain ⟨i, i1, i2⟩ := fld_int Try.underlying24 h 1 _ rfl Try.underlying22 (by kernel_rfl)
  obtain ⟨j, j1, j2⟩ := fld_int Try.underlying24 h 2 _ rfl Try.underlying22 (by kernel_rfl)
  obtain ⟨l, l1, l2⟩ := fld_int Try.underlying24 h 3 _ rfl Try.underlying22 (by kernel_rfl)
  have hl : cs.length = 4 := (struct_len Try.underlying24 h).trans (by kernel_rfl)
  have k3 : 0 ≤ k ∧ k ≤ 4294967295 := bounds_u32 k2
  have i3 : 0 ≤ i ∧ i ≤ 4294967295 := bounds_u32 i2
  have j3 : 0 ≤ j ∧ j ≤ 4294967295 := bounds_u32 j2
  have l3 : 0 ≤ l ∧ l ≤ 4294967295 := bounds_u32 l2
  obtain ⟨K, rfl⟩ := Int.eq_ofNat_of_zero_le k3.1
  obtain ⟨I, rfl⟩ := Int.eq_ofNat_of_zero_le i3.1
  obtain ⟨J, rfl⟩ := Int.eq_ofNat_of_zero_le j3.1
  obtain ⟨L, rfl⟩ := Int.eq_ofNat_of_zero_le l3.1
  exact ⟨⟨K, I, J, L⟩, list4 hl k1 i1 j1 l1, by show K < _; omega, by show I < _; omega, by show J < _; omega, by show L < _; omega⟩
end Go.Proofs.Ytdomngpkahgoiaa
