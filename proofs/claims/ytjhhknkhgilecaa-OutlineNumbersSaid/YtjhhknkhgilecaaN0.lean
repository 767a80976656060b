/- Decimals, plainly. -/
import Derived.Test.YtjhhknkhgilecaaMem
namespace Go.Proofs.Ytjhhknkhgilecaa.Ou
open Go.RowKit
set_option linter.unusedVariables false
set_option linter.unusedSimpArgs false
def dgs (n : Nat) : List UInt8 := if h : n < 10 then [UInt8.ofNat (48 + n)] else dgs (n / 10) ++ [UInt8.ofNat (48 + n % 10)]
termination_by n
decreasing_by omega
theorem dgs_small {n : Nat} (h : n < 10) : dgs n = [UInt8.ofNat (48 + n)] := by rw [dgs, dif_pos h]
theorem dgs_big {n : Nat} (h : ¬ n < 10) : dgs n = dgs (n / 10) ++ [UInt8.ofNat (48 + n % 10)] := by rw [dgs, dif_neg h]
theorem dgs_len : ∀ (k n : Nat), n < 10 ^ (k + 1) → (dgs n).length ≤ k + 1
  | 0, n, h => by rw [dgs_small (by simpa using h)]; simp
  | k + 1, n, h => by
    by_cases hn : n < 10
    · rw [dgs_small hn]; simp
    · rw [dgs_big hn, List.length_append]
      have := dgs_len k (n / 10) (by rw [Nat.pow_succ] at h; omega)
      simp; omega
theorem dgs_20 {n : Nat} (h : n < 18446744073709551616) : (dgs n).length ≤ 20 := dgs_len 19 n (Nat.lt_of_lt_of_le h (by decide))
def dec (z : Int) : List UInt8 := if z < 0 then 45 :: dgs z.natAbs else dgs z.natAbs
theorem dec_len {z : Int} (h : -9223372036854775808 ≤ z ∧ z ≤ 9223372036854775807) : (dec z).length ≤ 21 := by
  have := dgs_20 (n := z.natAbs) (by omega)
  unfold dec
  split
  · simp; omega
  · omega
theorem bstr_append (a b : List UInt8) : bstr (a ++ b) = bstr a ++ bstr b := by
  unfold bstr
  apply ByteArray.ext
  rw [ByteArray.data_append]
  simp
theorem wrapN {n : Int} (hn : -9223372036854775808 ≤ n ∧ n ≤ 9223372036854775807) (h : n < 0) : IntKind.u64.wrap (-IntKind.u64.wrap n) = (n.natAbs : Int) := by rw [IntKind.wrap_u64, IntKind.wrap_u64]; omega
theorem wrapP {n : Int} (hn : -9223372036854775808 ≤ n ∧ n ≤ 9223372036854775807) (h : ¬ n < 0) : IntKind.u64.wrap n = (n.natAbs : Int) := by rw [IntKind.wrap_u64]; omega
theorem wrap8 (K : Nat) (h : K < 256) : IntKind.u8.wrap (K : Int) = (K : Int) := by rw [IntKind.wrap_u8]; omega
theorem bv1 (K : Nat) (h : K < 256) : (#[Value.int .u8 (K : Int)] : Array Value).toList = bv [UInt8.ofNat K] := by unfold bv; simp; omega
end Go.Proofs.Ytjhhknkhgilecaa.Ou
