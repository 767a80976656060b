/- How many bits a number has: package math/bits, and zorder.Level. -/
import Derived.Test.YtjikndfpkhgnkaaBase
import Derived.Deep.DeepCutAuto
namespace Go.Proofs.Ytjikndfpkhgnkaa.Zw
open Go.RowKit
set_option linter.unusedVariables false
set_option linter.unusedSimpArgs false

/-! ### how many bits -/
def lenN (n : Nat) : Nat := if n = 0 then 0 else n.log2 + 1
theorem lenN_lt (n : Nat) : n < 2 ^ lenN n := by
  unfold lenN
  split
  · simp [*]
  · exact Nat.lt_log2_self
theorem lenN_le (n k : Nat) : lenN n ≤ k ↔ n < 2 ^ k := by
  unfold lenN
  split
  · simp [*, Nat.two_pow_pos]
  · rename_i h
    rw [← Nat.log2_lt h]; omega
theorem lenN_shift (n k : Nat) (h : 2 ^ k ≤ n) : lenN n = k + lenN (n / 2 ^ k) := by
  have key : ∀ j, lenN n ≤ j ↔ k + lenN (n / 2 ^ k) ≤ j := by
    intro j
    rw [lenN_le]
    by_cases hj : k ≤ j
    · obtain ⟨i, rfl⟩ : ∃ i, j = k + i := ⟨j - k, by omega⟩
      rw [Nat.add_le_add_iff_left, lenN_le, Nat.div_lt_iff_lt_mul (Nat.two_pow_pos _), Nat.pow_add, Nat.mul_comm]
    · have : 2 ^ j ≤ 2 ^ k := Nat.pow_le_pow_right (by decide) (by omega)
      omega
  exact Nat.le_antisymm ((key _).2 (Nat.le_refl _)) ((key _).1 (Nat.le_refl _))
theorem fin_len (A : Array UInt8) (n m : Nat) (j : Int) (hm : m < (ByteArray.mk A).size) (hA : ∀ i : Fin 256, ((A[i.val]?).getD 0).toNat = lenN i.val) (h2 : m < 256)
    (he : ((lenN n : Nat) : Int) = j + (lenN m : Nat)) (h0 : 0 ≤ j) (hj : j ≤ 56) :
    Ending.returned (.int .i64 (wrap64 (j + wrap64 (((ByteArray.mk A)[m]'hm).toNat : Int)))) = .returned (.int .i64 (lenN n : Nat)) := by
  have hb : lenN m ≤ 8 := (lenN_le m 8).2 h2
  have e2 : (((ByteArray.mk A)[m]'hm).toNat : Int) = (lenN m : Int) := by
    rw [← hA ⟨m, h2⟩]
    have hm' : m < A.size := hm
    have : (ByteArray.mk A)[m]'hm = A[m] := rfl
    rw [this, Array.getElem?_eq_getElem hm']
    rfl
  refine ret_int ?_
  rw [e2, he]
  simp only [wrap64, IntKind.wrap_i64]
  omega
theorem fin_len0 (A : Array UInt8) (n : Nat) (hm : n < (ByteArray.mk A).size) (hA : ∀ i : Fin 256, ((A[i.val]?).getD 0).toNat = lenN i.val) (h2 : n < 256) :
    Ending.returned (.int .i64 (wrap64 (wrap64 (((ByteArray.mk A)[n]'hm).toNat : Int)))) = .returned (.int .i64 (lenN n : Nat)) := by
  have h := fin_len A n n 0 hm hA h2 (by simp) (by decide) (by decide)
  simpa using h
set_option maxRecDepth 100000 in
set_option maxHeartbeats 1000000 in
theorem len64_ok (n : Nat) (w : World) (h1 : n < 18446744073709551616) :
    Calls Try.prog 63 #[.int .u64 n] w fun e w' => e = .returned (.int .i64 (lenN n : Nat)) ∧ w' = w := by
  have b0 : (n : Int) < 18446744073709551616 := by omega
  have B0 := Lib.hid b0; clear b0 h1
  go_enter Try.func63, Try.ntmps63
  generalize hT : (List.toArray (((([0, 1, 2, 2, 3, 3, 3, 3, 4, 4, 4, 4, 4, 4, 4, 4, 5, 5, 5, 5, 5, 5, 5, 5, 5, 5, 5, 5, 5, 5, 5, 5, 6, 6, 6, 6, 6, 6, 6, 6, 6, 6, 6, 6, 6, 6, 6, 6, 6, 6, 6, 6, 6, 6, 6, 6, 6, 6, 6, 6, 6, 6, 6, 6] : List UInt8).append [7, 7, 7, 7, 7, 7, 7, 7, 7, 7, 7, 7, 7, 7, 7, 7, 7, 7, 7, 7, 7, 7, 7, 7, 7, 7, 7, 7, 7, 7, 7, 7, 7, 7, 7, 7, 7, 7, 7, 7, 7, 7, 7, 7, 7, 7, 7, 7, 7, 7, 7, 7, 7, 7, 7, 7, 7, 7, 7, 7, 7, 7, 7, 7]).append (([8, 8, 8, 8, 8, 8, 8, 8, 8, 8, 8, 8, 8, 8, 8, 8, 8, 8, 8, 8, 8, 8, 8, 8, 8, 8, 8, 8, 8, 8, 8, 8, 8, 8, 8, 8, 8, 8, 8, 8, 8, 8, 8, 8, 8, 8, 8, 8, 8, 8, 8, 8, 8, 8, 8, 8, 8, 8, 8, 8, 8, 8, 8, 8] : List UInt8).append [8, 8, 8, 8, 8, 8, 8, 8, 8, 8, 8, 8, 8, 8, 8, 8, 8, 8, 8, 8, 8, 8, 8, 8, 8, 8, 8, 8, 8, 8, 8, 8, 8, 8, 8, 8, 8, 8, 8, 8, 8, 8, 8, 8, 8, 8, 8, 8, 8, 8, 8, 8, 8, 8, 8, 8, 8, 8, 8, 8, 8, 8, 8, 8]))) : Array UInt8) = TAB
  have hA : ∀ i : Fin 256, ((TAB[i.val]?).getD 0).toNat = lenN i.val := by rw [← hT]; decide +kernel
  have hS : TAB.size = 256 := by rw [← hT]; rfl
  clear hT
  have HA := Lib.hid hA; clear hA
  have HS := Lib.hid hS; clear hS
  go_upto_if 4 with (fail)
  go_cut [0, 2] (fun v0 v2 wx => wx = w ∧ ∃ m j : Nat, v0 = .int .u64 m ∧ v2 = .int .i64 j ∧ Hid ((m : Int) < 4294967296) ∧ Hid (lenN n = j + lenN m) ∧ j ≤ 32)
  case first =>
    by_cases c : decide ((4294967296 : Int) ≤ n) = true
    · rw [c]
      go_wp
      go_meet
      case rel => exact ⟨rfl, n / 4294967296, 32, rfl, rfl, (by have := B0.out; exact (show Hid _ from (by show ((_ : Int) < _); omega))), lenN_shift n 32 (by have := of_decide_eq_true c; omega), by omega⟩
    · rw [Bool.not_eq_true] at c
      rw [c]
      go_wp
      go_meet
      case rel => exact ⟨rfl, n, 0, rfl, rfl, (by have := of_decide_eq_false c; show ((_ : Int) < _); omega), by simp [Hid], by omega⟩
  case rest =>
    obtain ⟨hw, m, j, rfl, rfl, hm, hl, hj⟩ := hcut
    replace hw := hw.symm; subst hw
    go_upto_if 8 with (fail)
    go_cut [0, 2] (fun v0 v2 wx => wx = w ∧ ∃ m j : Nat, v0 = .int .u64 m ∧ v2 = .int .i64 j ∧ Hid ((m : Int) < 65536) ∧ Hid (lenN n = j + lenN m) ∧ j ≤ 48)
    case first =>
      by_cases c : decide ((65536 : Int) ≤ m) = true
      · rw [c]
        go_wp
        go_meet
        case rel => exact ⟨rfl, m / 65536, j + 16, rfl, by go_num, (by have := hm.out; show ((_ : Int) < _); omega), by have := lenN_shift m 16 (by have := of_decide_eq_true c; omega); rw [hl.out, this]; unfold Hid; simp; omega, by omega⟩
      · rw [Bool.not_eq_true] at c
        rw [c]
        go_wp
        go_meet
        case rel => exact ⟨rfl, m, j, rfl, rfl, (by have := of_decide_eq_false c; show ((_ : Int) < _); omega), hl, by omega⟩
    case rest =>
      obtain ⟨hw, m2, j2, rfl, rfl, hm2, hl2, hj2⟩ := hcut
      replace hw := hw.symm; subst hw
      clear hl hm hj
      go_upto_if 14 with (fail)
      go_cut [0, 2] (fun v0 v2 wx => wx = w ∧ ∃ m j : Nat, v0 = .int .u64 m ∧ v2 = .int .i64 j ∧ Hid ((m : Int) < 256) ∧ Hid (lenN n = j + lenN m) ∧ j ≤ 56)
      case first =>
        by_cases c : decide ((256 : Int) ≤ m2) = true
        · rw [c]
          go_wp
          go_meet
          case rel => exact ⟨rfl, m2 / 256, j2 + 8, rfl, by go_num, (by have := hm2.out; show ((_ : Int) < _); omega), by have := lenN_shift m2 8 (by have := of_decide_eq_true c; omega); rw [hl2.out, this]; unfold Hid; simp; omega, by omega⟩
        · rw [Bool.not_eq_true] at c
          rw [c]
          go_wp
          go_meet
          case rel => exact ⟨rfl, m2, j2, rfl, rfl, (by have := of_decide_eq_false c; show ((_ : Int) < _); omega), hl2, by omega⟩
      case rest =>
        obtain ⟨hw, m3, j3, rfl, rfl, hm3, hl3, hj3⟩ := hcut
        replace hw := hw.symm; subst hw
        clear hl2 hm2 hj2
        have i0 : (0 : Int) ≤ (m3 : Int) := by omega
        have i1 : (m3 : Int) < 256 := hm3.out
        have hS := HS.out
        go_wp2
        go_ret
        refine ⟨?_, rfl⟩
        refine Eq.trans (fin_len _ n m3 j3 _ HA.out (by omega) (by rw [hl3.out]; simp) (by omega) (by omega)) rfl
theorem lead_ok (n : Nat) (w : World) (h1 : n < 18446744073709551616) :
    Calls Try.prog 54 #[.int .u64 n] w fun e w' => e = .returned (.int .i64 (64 - lenN n : Nat)) ∧ w' = w := by
  have hl : lenN n ≤ 64 := (lenN_le _ 64).2 h1
  go_enter Try.func54, Try.ntmps54
  go_wp2_with fail
  refine (len64_ok _ _ h1).mono ?_; rintro e w' ⟨rfl, rfl⟩
  go_wp2_with fail
  go_ret
  exact ⟨ret_int (by omega), rfl⟩
theorem level_ok (a b : Nat) (w : World) (ha : a < 18446744073709551616) (hb : b < 18446744073709551616) :
    Calls Try.prog 23 #[.int .u64 a, .int .u64 b] w fun e w' => e = .returned (.int .i64 ((64 - lenN (a ^^^ b)) / 2 : Nat)) ∧ w' = w := by
  have hx : a ^^^ b < 18446744073709551616 := Nat.xor_lt_two_pow (n := 64) ha hb
  have ex := u64_xor_nat a b ha hb
  go_enter Try.func23, Try.ntmps23
  go_wp2_with fail
  refine (lead_ok _ _ hx).mono ?_; rintro e w' ⟨rfl, rfl⟩
  go_wp2_with fail
  go_ret
  exact ⟨ret_int (by omega), rfl⟩
end Go.Proofs.Ytjikndfpkhgnkaa.Zw
