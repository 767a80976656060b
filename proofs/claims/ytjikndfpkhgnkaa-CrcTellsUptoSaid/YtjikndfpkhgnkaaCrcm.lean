/- Plain facts on sums of 32 bits, bit by bit and octet by octet (no program in sight). -/
namespace Go.Proofs.Ytjikndfpkhgnkaa.Crc
def poly : Nat := 3988292384
def step (x : Nat) : Nat := if x % 2 = 1 then x / 2 ^^^ poly else x / 2
def steps : Nat → Nat → Nat
  | 0, x => x
  | k + 1, x => steps k (step x)
theorem steps_succ (k x : Nat) : steps (k + 1) x = step (steps k x) := by
  induction k generalizing x with
  | zero => rfl
  | succ k ih => rw [steps, ih]; rfl
theorem step_lt {x : Nat} (h : x < 4294967296) : step x < 4294967296 := by
  unfold step
  split
  · exact Nat.xor_lt_two_pow (n := 32) (by omega) (by decide)
  · omega
theorem steps_lt (k : Nat) {x : Nat} (h : x < 4294967296) : steps k x < 4294967296 := by
  induction k generalizing x with
  | zero => exact h
  | succ k ih => exact ih (step_lt h)
theorem xor_half (a b : Nat) : (a ^^^ b) / 2 = a / 2 ^^^ b / 2 := by
  have := Nat.shiftRight_xor_distrib (a := a) (b := b) (i := 1)
  simpa [Nat.shiftRight_eq_div_pow] using this
theorem step_xor (a b : Nat) : step (a ^^^ b) = step a ^^^ step b := by
  unfold step
  rw [xor_half]
  have hm : (a ^^^ b) % 2 = (a % 2 ^^^ b % 2) := by
    have := Nat.xor_mod_two_pow (a := a) (b := b) (n := 1)
    simpa using this
  rcases Nat.mod_two_eq_zero_or_one a with ha | ha <;> rcases Nat.mod_two_eq_zero_or_one b with hb | hb <;> rw [hm, ha, hb] <;> simp
  · rw [Nat.xor_assoc]
  · rw [Nat.xor_assoc, Nat.xor_assoc, Nat.xor_comm poly]
  · rw [Nat.xor_assoc (a / 2) poly, Nat.xor_comm (b / 2) poly, ← Nat.xor_assoc poly, Nat.xor_self, Nat.zero_xor]
theorem steps_xor (k a b : Nat) : steps k (a ^^^ b) = steps k a ^^^ steps k b := by
  induction k generalizing a b with
  | zero => rfl
  | succ k ih => simp only [steps, step_xor, ih]
theorem steps_shift (k y : Nat) : steps k (2 ^ k * y) = y := by
  induction k with
  | zero => simp [steps]
  | succ k ih =>
    have h : step (2 ^ (k + 1) * y) = 2 ^ k * y := by
      unfold step
      rw [Nat.pow_succ, Nat.mul_assoc, Nat.mul_comm 2 y, ← Nat.mul_assoc]
      rw [if_neg (by omega)]
      omega
    rw [steps, h, ih]
/-- Eight bits at once. -/
theorem steps8 (x : Nat) : steps 8 x = steps 8 (x % 256) ^^^ x / 256 := by
  have h : x = x % 256 ^^^ 2 ^ 8 * (x / 256) := by
    apply Nat.eq_of_testBit_eq
    intro i
    rw [Nat.testBit_xor, show (256 : Nat) = 2 ^ 8 from rfl, Nat.testBit_mod_two_pow, Nat.testBit_two_pow_mul, Nat.testBit_div_two_pow]
    by_cases h : i < 8
    · have h8 : ¬ 8 ≤ i := by omega
      simp [h, h8]
    · have h8 : 8 ≤ i := by omega
      have e : i - 8 + 8 = i := by omega
      simp [h, h8, e]
  conv => lhs; rw [h]
  rw [steps_xor, steps_shift]
/-- One octet, bit by bit. -/
def eat (s : Nat) (c : UInt8) : Nat := steps 8 (s ^^^ c.toNat)
/-- One octet by a table. -/
def eatT (t : Nat → Nat) (s : Nat) (c : UInt8) : Nat := t ((s ^^^ c.toNat) % 256) ^^^ s / 256
theorem eat_table (s : Nat) (c : UInt8) : eatT (steps 8) s c = eat s c := by
  unfold eat eatT
  rw [steps8 (s ^^^ c.toNat)]
  congr 1
  have := Nat.shiftRight_xor_distrib (a := s) (b := c.toNat) (i := 8)
  have hc := c.toNat_lt
  have h0 : c.toNat / 256 = 0 := by omega
  simp only [Nat.shiftRight_eq_div_pow] at this
  rw [show (2 : Nat) ^ 8 = 256 from rfl, h0, Nat.xor_zero] at this
  exact this.symm
theorem eat_lt {s : Nat} (h : s < 4294967296) (c : UInt8) : eat s c < 4294967296 :=
  steps_lt 8 (Nat.xor_lt_two_pow (n := 32) (by omega) (by have := c.toNat_lt; omega))
theorem fold_lt (l : List UInt8) {s : Nat} (h : s < 4294967296) : l.foldl eat s < 4294967296 := by
  induction l generalizing s with
  | nil => exact h
  | cons c l ih => exact ih (eat_lt h c)
theorem eatT_lt {t : Nat → Nat} (ht : ∀ i, i < 256 → t i < 4294967296) {s : Nat} (h : s < 4294967296) (c : UInt8) : eatT t s c < 4294967296 :=
  Nat.xor_lt_two_pow (n := 32) (ht _ (Nat.mod_lt _ (by decide))) (by omega)
end Go.Proofs.Ytjikndfpkhgnkaa.Crc
