/- How many bits a number has: package math/bits, and zorder.Level. -/
import Derived.Test.YtdomngpkahgoiaaBase
import Derived.Deep.DeepCutAuto
namespace Go.Proofs.Ytdomngpkahgoiaa.Zw
open Go.RowKit
set_option linter.unusedVariables false
set_option linter.unusedSimpArgs false

/-! ### how many bits -/
def lenN (n : Nat) : Nat := if n = 0 then 0 else n.log2 + 1
theorem lenN_lt (n : Nat) : n < 2 ^ lenN n := by
  unfold lenN
  split
  · simp [*]
  · exact Nat.lt_log2_self
theorem lenN_le (n k : Nat) : lenN n ≤ k ↔ n < 2 ^ k := by
  unfold lenN
  split
  · simp [*, Nat.two_pow_pos]
  · rename_i h
    rw [← Nat.log2_lt h]; omega
theorem lenN_shift (n k : Nat) (h : 2 ^ k ≤ n) : lenN n = k + lenN (n / 2 ^ k) := by
  have key : ∀ j, lenN n ≤ j ↔ k + lenN (n / 2 ^ k) ≤ j := by
    intro j
    rw [lenN_le]
    by_cases hj : k ≤ j
    · obtain ⟨i, rfl⟩ : ∃ i, j = k + i := ⟨j - k, by omega⟩
      rw [Nat.add_le_add_iff_left, lenN_le, Nat.div_lt_iff_lt_mul (Nat.two_pow_pos _), Nat.pow_add, Nat.mul_comm]
    · have : 2 ^ j ≤ 2 ^ k := Nat.pow_le_pow_right (by decide) (by omega)
      omega
  exact Nat.le_antisymm ((key _).2 (Nat.le_refl _)) ((key _).1 (Nat.le_refl _))
theorem fin_len (A : Array UInt8) (n m : Nat) (j : Int) (hm : m < (ByteArray.mk A).size) (hA : ∀ i : Fin 256, ((A[i.val]?).getD 0).toNat = lenN i.val) (h2 : m < 256)
    (he : ((lenN n : Nat) : Int) = j + (lenN m : Nat)) (h0 : 0 ≤ j) (hj : j ≤ 56) :
    Ending.returned (.int .i64 (wrap64 (j + wrap64 (((ByteArray.mk A)[m]'hm).toNat : Int)))) = .returned (.int .i64 (lenN n : Nat)) := by
  have hb : lenN m ≤ 8 := (lenN_le m 8).2 h2
  have e2 : (((ByteArray.mk A)[m]'hm).toNat : Int) = (lenN m : Int) := by
    rw [← hA ⟨m, h2⟩]
    have hm' : m < A.size := hm
    have : (ByteArray.mk A)[m]'hm = A[m] := rfl
    rw [this, Array.getElem?_eq_getElem hm']
    rfl
  refine ret_int ?_
  rw [e2, he]
  simp only [wrap64, IntKind.wrap_i64]
  omega
theorem fin_len0 (A : Array UInt8) (n : Nat) (hm : n < (ByteArray.mk A).size) (hA : ∀ i : Fin 256, ((A[i.val]?).getD 0).toNat = lenN i.val) (h2 : n < 256) :
    Ending.returned (.int .i64 (wrap64 (wrap64 (((ByteArray.mk A)[n]'hm).toNat : Int)))) = .returned (.int .i64 (lenN n : Nat)) := by
  have h := fin_len A n n 0 hm hA h2 (by simp) (by decide) (by decide)
  simpa using h
end Go.Proofs.Ytdomngpkahgoiaa.Zw
