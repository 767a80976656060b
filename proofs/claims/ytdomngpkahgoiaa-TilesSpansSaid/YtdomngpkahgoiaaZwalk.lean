/- The walks over package zorder's and package cell's functions: each does what its plain function says. -/
import Derived.Test.YtdomngpkahgoiaaBase
import Derived.Test.YtdomngpkahgoiaaZmath
namespace Go.Proofs.Ytdomngpkahgoiaa.Zw
open Go.RowKit
set_option linter.unusedVariables false
set_option linter.unusedSimpArgs false



/-! ### bits of uint64, uint32 -/
theorem st_eq (h z k m : Nat) (hz : z < 18446744073709551616) (hm : m < 18446744073709551616) (hk : k = 2 ^ h) :
    bits .and .u64 (bits .or .u64 (z : Int) (IntKind.u64.wrap ((z : Int) * (k : Int)))) (m : Int) = ((Zm.st h m z : Nat) : Int) := by
  rw [IntKind.wrap_u64, show ((z : Int) * (k : Int)) % 18446744073709551616 = ((z * k % 18446744073709551616 : Nat) : Int) by simp only [Int.natCast_emod, Int.natCast_mul, Int.cast_ofNat_Int], u64_or_nat _ _ hz (Nat.mod_lt _ (by decide)), u64_and_nat _ _ (Nat.or_lt_two_pow (n := 64) hz (Nat.mod_lt _ (by decide))) hm, hk]
  rfl
theorem st_eq' (h z k m : Nat) (hz : z * k < 18446744073709551616) (h0 : 0 < k) (hm : m < 18446744073709551616) (hk : k = 2 ^ h) :
    bits .and .u64 (bits .or .u64 (z : Int) ((z : Int) * (k : Int))) (m : Int) = ((Zm.st h m z : Nat) : Int) := by
  have hz1 : z < 18446744073709551616 := Nat.lt_of_le_of_lt (Nat.le_mul_of_pos_right z h0) hz
  rw [← st_eq h z k m hz1 hm hk, IntKind.wrap_u64]
  congr 2
  have h2 : ((z * k % 18446744073709551616 : Nat) : Int) = ((z * k : Nat) : Int) := by rw [Nat.mod_eq_of_lt hz]
  simp only [Int.natCast_emod, Int.natCast_mul, Int.cast_ofNat_Int] at h2
  exact h2.symm
theorem ga_eq (h z k m : Nat) (hz : z < 18446744073709551616) (h0 : 0 < k) (hm : m < 18446744073709551616) (hk : k = 2 ^ h) :
    bits .and .u64 (bits .or .u64 (z : Int) ((z : Int) / (k : Int))) (m : Int) = ((Zm.ga h m z : Nat) : Int) := by
  have hd : z / k < 18446744073709551616 := Nat.lt_of_le_of_lt (Nat.div_le_self _ _) hz
  rw [show ((z : Int) / (k : Int)) = ((z / k : Nat) : Int) by simp only [Int.natCast_ediv], u64_or_nat _ _ hz hd, u64_and_nat _ _ (Nat.or_lt_two_pow (n := 64) hz hd) hm, hk]
  rfl

set_option maxHeartbeats 1000000 in
theorem spread_ok (n : Nat) (w : World) (h1 : n < 4294967296) :
    Calls Try.prog 48 #[.int .u32 n] w fun e w' => e = .returned (.int .u64 (Zm.spreadN n : Nat)) ∧ w' = w := by
  have i0 : ∀ w, (Instr.index 112 (.agg #[.int .u64 281470681808895, .int .u64 71777214294589695, .int .u64 1085102592571150095, .int .u64 3689348814741910323, .int .u64 6148914691236517205]) (.int .i64 0)).run Try.prog w = .ok (.int .u64 281470681808895) w := fun _ => by as_aux_lemma => kernel_rfl
  have i1 : ∀ w, (Instr.index 112 (.agg #[.int .u64 281470681808895, .int .u64 71777214294589695, .int .u64 1085102592571150095, .int .u64 3689348814741910323, .int .u64 6148914691236517205]) (.int .i64 1)).run Try.prog w = .ok (.int .u64 71777214294589695) w := fun _ => by as_aux_lemma => kernel_rfl
  have i2 : ∀ w, (Instr.index 112 (.agg #[.int .u64 281470681808895, .int .u64 71777214294589695, .int .u64 1085102592571150095, .int .u64 3689348814741910323, .int .u64 6148914691236517205]) (.int .i64 2)).run Try.prog w = .ok (.int .u64 1085102592571150095) w := fun _ => by as_aux_lemma => kernel_rfl
  have i3 : ∀ w, (Instr.index 112 (.agg #[.int .u64 281470681808895, .int .u64 71777214294589695, .int .u64 1085102592571150095, .int .u64 3689348814741910323, .int .u64 6148914691236517205]) (.int .i64 3)).run Try.prog w = .ok (.int .u64 3689348814741910323) w := fun _ => by as_aux_lemma => kernel_rfl
  have i4 : ∀ w, (Instr.index 112 (.agg #[.int .u64 281470681808895, .int .u64 71777214294589695, .int .u64 1085102592571150095, .int .u64 3689348814741910323, .int .u64 6148914691236517205]) (.int .i64 4)).run Try.prog w = .ok (.int .u64 6148914691236517205) w := fun _ => by as_aux_lemma => kernel_rfl
  go_enter Try.func48, Try.ntmps48
  go_wp2
  refine wp_loop_rounds 6 ?_
  rw [rounds_succ]; go_wp2
  rw [rounds_succ]; go_wp2
  rw [rounds_succ]; go_wp2
  rw [rounds_succ]; go_wp2
  rw [rounds_succ]; go_wp2
  rw [rounds_succ]; go_wp2
  go_ret
  refine ⟨?_, rfl⟩
  have e1 := st_eq' 16 n 65536 281470681808895 (by omega) (by decide) (by decide) rfl
  have e2 := st_eq 8 (Zm.st 16 281470681808895 n) 256 71777214294589695 (Zm.st_lt _ _ _ (by decide)) (by decide) rfl
  have e3 := st_eq 4 (Zm.st 8 71777214294589695 (Zm.st 16 281470681808895 n)) 16 1085102592571150095 (Zm.st_lt _ _ _ (by decide)) (by decide) rfl
  have e4 := st_eq 2 (Zm.st 4 1085102592571150095 (Zm.st 8 71777214294589695 (Zm.st 16 281470681808895 n))) 4 3689348814741910323 (Zm.st_lt _ _ _ (by decide)) (by decide) rfl
  have e5 := st_eq 1 (Zm.st 2 3689348814741910323 (Zm.st 4 1085102592571150095 (Zm.st 8 71777214294589695 (Zm.st 16 281470681808895 n)))) 2 6148914691236517205 (Zm.st_lt _ _ _ (by decide)) (by decide) rfl
  simp only [Int.cast_ofNat_Int] at e1 e2 e3 e4 e5
  rw [e1, e2, e3, e4, e5]
  rfl

theorem join_ok (x y : Nat) (w : World) (hx : x < 4294967296) (hy : y < 4294967296) :
    Calls Try.prog 18 #[.int .u32 x, .int .u32 y] w fun e w' => e = .returned (.int .u64 (Zm.joinN x y : Nat)) ∧ w' = w := by
  have hl := Zm.spread_lt y
  have hl2 := Zm.spread_lt x
  go_enter Try.func18, Try.ntmps18
  go_wp2_with fail
  refine (spread_ok x _ hx).mono ?_; rintro e w' ⟨rfl, rfl⟩
  go_wp2_with fail
  refine (spread_ok y _ hy).mono ?_; rintro e w' ⟨rfl, rfl⟩
  go_wp2_with fail
  go_ret
  refine ⟨?_, rfl⟩
  rw [IntKind.wrap_u64, show (((Zm.spreadN y : Nat) : Int) * 2) % 18446744073709551616 = ((Zm.spreadN y * 2 % 18446744073709551616 : Nat) : Int) by simp only [Int.natCast_emod, Int.natCast_mul, Int.cast_ofNat_Int], u64_or_nat _ _ hl2 (Nat.mod_lt _ (by decide))]
  rfl

/-! ### cells -/
def lv (L : Int) : Nat := if L < 0 then 0 else if 32 < L then 32 else L.toNat
theorem lv_le (L : Int) : lv L ≤ 32 := by unfold lv; (repeat' split) <;> omega
def msk (l : Nat) : Nat := 2 ^ (32 - l) - 1
theorem side_ok (L : Int) (w : World) (h0 : 0 ≤ L) (hl : L ≤ 32) :
    Calls Try.prog 45 #[.int .i64 L] w fun e w' => e = .returned (.int .u32 (msk L.toNat : Nat)) ∧ w' = w := by
  obtain ⟨l, rfl⟩ := Int.eq_ofNat_of_zero_le h0
  go_enter Try.func45, Try.ntmps45
  go_wp2
  go_ret
  refine ⟨?_, rfl⟩
  have hp : 2 ^ (32 - l) ≤ 2 ^ 32 := Nat.pow_le_pow_right (by decide) (by omega)
  have h0 : 0 < 2 ^ (32 - l) := Nat.two_pow_pos _
  have hc : ((2 : Int) ^ (32 - l)) = ((2 ^ (32 - l) : Nat) : Int) := by simp
  rw [hc, Int.toNat_natCast]
  unfold msk
  generalize 2 ^ (32 - l) = p at *
  exact ret_int (by omega)
def cut (l x : Nat) : Nat := x / 2 ^ (32 - l) * 2 ^ (32 - l)
theorem andNot_cut (l x : Nat) (hx : x < 4294967296) (hl : l ≤ 32) : bits .andNot .u32 (x : Int) (msk l : Nat) = (cut l x : Nat) := by
  have hp : 2 ^ (32 - l) ≤ 2 ^ 32 := Nat.pow_le_pow_right (by decide) (by omega)
  have hm : msk l < 4294967296 := by have h0 : 0 < 2 ^ (32 - l) := Nat.two_pow_pos _; unfold msk; omega
  rw [u32_andNot_nat _ _ hx hm]
  congr 1
  refine Nat.eq_of_testBit_eq fun j => ?_
  rw [cut, Nat.testBit_and, Nat.testBit_mul_two_pow, Nat.testBit_div_two_pow]
  by_cases hj : j < 32
  · rw [show 4294967295 - msk l = 2 ^ 32 - (msk l + 1) by omega, Nat.testBit_two_pow_sub_succ hm, msk, Nat.testBit_two_pow_sub_one]
    by_cases h2 : 32 - l ≤ j
    · simp [hj, h2, show ¬ j < 32 - l by omega, show 32 - l + (j - (32 - l)) = j by omega, show j - (32 - l) + (32 - l) = j by omega]
    · simp [h2, show j < 32 - l by omega]
  · rw [Zm.tb_out (b := 32) hx (by omega)]
    by_cases h2 : 32 - l ≤ j
    · simp [Zm.tb_out (b := 32) hx (show 32 ≤ j by omega), show 32 - l + (j - (32 - l)) = j by omega, show j - (32 - l) + (32 - l) = j by omega]
    · simp [h2]
theorem lv_id (l : Nat) (h : l ≤ 32) : lv l = l := by unfold lv; (repeat' split) <;> omega
set_option maxHeartbeats 1000000 in
theorem fix_ok (x y : Nat) (L : Int) (w : World) (hx : x < 4294967296) (hy : y < 4294967296) (h1 : -9223372036854775808 ≤ L) (h2 : L ≤ 9223372036854775807) :
    Calls Try.prog 44 #[.agg #[.int .u32 x, .int .u32 y, .int .i64 L]] w fun e w' =>
      e = .returned (.agg #[.int .u32 (cut (lv L) x : Nat), .int .u32 (cut (lv L) y : Nat), .int .i64 (lv L : Nat)]) ∧ Below w.heap.size w w' := by
  have hlv := lv_le L
  have key : ∃ l : Nat, l = lv L ∧ (L < 0 ∧ l = 0 ∨ 32 < L ∧ l = 32 ∨ L = l) := by
    refine ⟨_, rfl, ?_⟩
    unfold lv; (repeat' split) <;> omega
  obtain ⟨l, hle, hc⟩ := key
  rw [← hle] at hlv ⊢
  clear hle
  have ha := andNot_cut l x hx hlv
  have hb := andNot_cut l y hy hlv
  have Ha := Lib.hid ha; have Hb := Lib.hid hb; clear ha hb
  rcases hc with ⟨c, rfl⟩ | ⟨c, rfl⟩ | rfl
  all_goals
    go_enter Try.func44, Try.ntmps44
    go_wp2_with fail
    refine (side_ok _ _ (by omega) (by omega)).mono ?_; rintro e w' ⟨rfl, rfl⟩
    go_wp2_with fail
    try rw [Int.toNat_natCast]
    try simp only [show (0 : Int).toNat = 0 from rfl, show (32 : Int).toNat = 32 from rfl]
    rw [Ha.out, Hb.out]
    refine bodyPost_ret (by simp [results, Try.results44, go_sem]) rfl ⟨rfl, ?_⟩
    exact ((Below.refl _ _).alloc (Nat.le_refl _) _).alloc (by simp) _


def cellV (x y : Nat) (L : Int) : Value := .agg #[.int .u32 (cut (lv L) x : Nat), .int .u32 (cut (lv L) y : Nat), .int .i64 (lv L : Nat)]
theorem cut_lt {l x : Nat} (hx : x < 4294967296) : cut l x < 4294967296 := Nat.lt_of_le_of_lt (Nat.div_mul_le_self _ _) hx
theorem cut_cut (l x : Nat) : cut l (cut l x) = cut l x := by
  unfold cut
  rw [Nat.mul_div_cancel _ (Nat.two_pow_pos _)]

end Go.Proofs.Ytdomngpkahgoiaa.Zw
