/- Places in one row: what cells are in it (plain). -/
import Derived.Test.YtdomngpkahgoiaaZmath
import Derived.Test.YtdomngpkahgoiaaZlen
import Derived.Test.YtdomngpkahgoiaaZwalk2
namespace Go.Proofs.Ytdomngpkahgoiaa.Zm
open Go.Proofs.Ytdomngpkahgoiaa.Zw

theorem join_div (x y : Nat) (hx : x < 2 ^ 32) (hy : y < 2 ^ 32) : ∀ k, joinN x y / 4 ^ k = joinN (x / 2 ^ k) (y / 2 ^ k)
  | 0 => by simp
  | k + 1 => by
    have ih := join_div x y hx hy k
    have h1 : x / 2 ^ k < 2 ^ 32 := Nat.lt_of_le_of_lt (Nat.div_le_self _ _) hx
    have h2 : y / 2 ^ k < 2 ^ 32 := Nat.lt_of_le_of_lt (Nat.div_le_self _ _) hy
    rw [Nat.pow_succ, ← Nat.div_div_eq_div_mul, ih, Nat.pow_succ, ← Nat.div_div_eq_div_mul, ← Nat.div_div_eq_div_mul]
    generalize x / 2 ^ k = a at *
    generalize y / 2 ^ k = b at *
    have := join_snoc (a / 2) (b / 2) (a % 2) (b % 2) (by omega) (by omega) (by omega) (by omega)
    rw [show 2 * (a / 2) + a % 2 = a by omega, show 2 * (b / 2) + b % 2 = b by omega] at this
    omega
theorem join_inj {x y u v : Nat} (hx : x < 2 ^ 32) (hy : y < 2 ^ 32) (hu : u < 2 ^ 32) (hv : v < 2 ^ 32) : joinN x y = joinN u v ↔ x = u ∧ y = v := by
  constructor
  · intro h
    have h1 := gather_join x y hx hy
    have h2 := gather_join u v hu hv
    rw [h] at h1
    exact ⟨h1.1.symm.trans h2.1, h1.2.symm.trans h2.2⟩
  · rintro ⟨rfl, rfl⟩; rfl
theorem join_low (a b : Nat) : ∀ k, a * 2 ^ k + (2 ^ k - 1) < 2 ^ 32 → b * 2 ^ k + (2 ^ k - 1) < 2 ^ 32 →
    joinN (a * 2 ^ k) (b * 2 ^ k) = joinN a b * 4 ^ k ∧ joinN (a * 2 ^ k + (2 ^ k - 1)) (b * 2 ^ k + (2 ^ k - 1)) = joinN a b * 4 ^ k + (4 ^ k - 1)
  | 0, _, _ => by simp
  | k + 1, ha, hb => by
    have h0 : 0 < 2 ^ k := Nat.two_pow_pos k
    have h4 : 0 < 4 ^ k := Nat.pow_pos (by decide)
    have e1 : a * 2 ^ (k + 1) = 2 * (a * 2 ^ k) := by rw [Nat.pow_succ, ← Nat.mul_assoc, Nat.mul_comm]
    have e2 : b * 2 ^ (k + 1) = 2 * (b * 2 ^ k) := by rw [Nat.pow_succ, ← Nat.mul_assoc, Nat.mul_comm]
    have e3 : joinN a b * 4 ^ (k + 1) = (joinN a b * 4 ^ k) * 4 := by rw [Nat.pow_succ, ← Nat.mul_assoc]
    have e4 : (2 : Nat) ^ (k + 1) = 2 * 2 ^ k := by rw [Nat.pow_succ, Nat.mul_comm]
    have e5 : (4 : Nat) ^ (k + 1) = 4 * 4 ^ k := by rw [Nat.pow_succ, Nat.mul_comm]
    rw [e1, e4] at ha
    rw [e2, e4] at hb
    obtain ⟨i1, i2⟩ := join_low a b k (by omega) (by omega)
    rw [e1, e2, e3, e4, e5]
    have s1 := join_snoc (a * 2 ^ k) (b * 2 ^ k) 0 0 (by omega) (by omega) (by decide) (by decide)
    have s2 := join_snoc (a * 2 ^ k + (2 ^ k - 1)) (b * 2 ^ k + (2 ^ k - 1)) 1 1 (by omega) (by omega) (by decide) (by decide)
    rw [show 2 * (a * 2 ^ k + (2 ^ k - 1)) + 1 = 2 * (a * 2 ^ k) + (2 * 2 ^ k - 1) by omega, show 2 * (b * 2 ^ k + (2 ^ k - 1)) + 1 = 2 * (b * 2 ^ k) + (2 * 2 ^ k - 1) by omega] at s2
    rw [Nat.add_zero, Nat.add_zero] at s1
    exact ⟨by rw [s1, i1]; omega, by rw [s2, i2]; omega⟩

theorem cut_eq {l x u : Nat} : cut l u = cut l x ↔ u / 2 ^ (32 - l) = x / 2 ^ (32 - l) := by
  unfold cut
  constructor
  · intro h; exact Nat.eq_of_mul_eq_mul_right (Nat.two_pow_pos _) h
  · intro h; rw [h]
/-- The page's rows. -/
theorem rows (x y u v l : Nat) (hx : x < 2 ^ 32) (hy : y < 2 ^ 32) (hu : u < 2 ^ 32) (hv : v < 2 ^ 32) (hl : l ≤ 32) :
    decide (cut l u = cut l x ∧ cut l v = cut l y) = (decide (joinN (cut l x) (cut l y) ≤ joinN u v) && decide (joinN u v ≤ joinN (cut l x + msk l) (cut l y + msk l))) := by
  have hp : 0 < 2 ^ (32 - l) := Nat.two_pow_pos _
  have hb : ∀ a, a < 2 ^ 32 → a / 2 ^ (32 - l) * 2 ^ (32 - l) + (2 ^ (32 - l) - 1) < 2 ^ 32 := by
    intro a ha
    have h1 : a / 2 ^ (32 - l) < 2 ^ l := by
      rw [Nat.div_lt_iff_lt_mul hp, ← Nat.pow_add, show l + (32 - l) = 32 by omega]; exact ha
    have h2 : (a / 2 ^ (32 - l) + 1) * 2 ^ (32 - l) ≤ 2 ^ l * 2 ^ (32 - l) := Nat.mul_le_mul_right _ h1
    rw [← Nat.pow_add, show l + (32 - l) = 32 by omega, Nat.add_mul] at h2
    omega
  obtain ⟨j1, j2⟩ := join_low (x / 2 ^ (32 - l)) (y / 2 ^ (32 - l)) (32 - l) (hb x hx) (hb y hy)
  have j3 := join_div u v hu hv (32 - l)
  have h4 : 0 < 4 ^ (32 - l) := Nat.pow_pos (by decide)
  rw [Bool.eq_iff_iff, Bool.and_eq_true, decide_eq_true_eq, decide_eq_true_eq, decide_eq_true_eq, cut_eq, cut_eq]
  rw [cut, cut, msk, j1, j2]
  have s1 : u / 2 ^ (32 - l) < 2 ^ 32 := Nat.lt_of_le_of_lt (Nat.div_le_self _ _) hu
  have s2 : v / 2 ^ (32 - l) < 2 ^ 32 := Nat.lt_of_le_of_lt (Nat.div_le_self _ _) hv
  have s3 : x / 2 ^ (32 - l) < 2 ^ 32 := Nat.lt_of_le_of_lt (Nat.div_le_self _ _) hx
  have s4 : y / 2 ^ (32 - l) < 2 ^ 32 := Nat.lt_of_le_of_lt (Nat.div_le_self _ _) hy
  rw [← join_inj s1 s2 s3 s4, ← j3]
  generalize joinN (x / 2 ^ (32 - l)) (y / 2 ^ (32 - l)) = A
  generalize 4 ^ (32 - l) = q at *
  generalize joinN u v = z at *
  constructor
  · rintro rfl
    have e1 := Nat.div_add_mod z q
    have e2 := Nat.mod_lt z h4
    rw [Nat.mul_comm] at e1
    constructor
    · exact Nat.div_mul_le_self z q
    · omega
  · rintro ⟨a1, a2⟩
    refine Nat.div_eq_of_lt_le a1 ?_
    rw [Nat.add_mul]; omega
/-- How many levels two places have in common. -/
theorem level_step (z a n : Nat) (hz : z < 2 ^ 64) (ha : a < 2 ^ 64) (hn : n < 32) :
    (cut (n + 1) (gatherN z) = cut (n + 1) (gatherN a) ∧ cut (n + 1) (gatherN (z / 2)) = cut (n + 1) (gatherN (a / 2))) ↔ n + 1 ≤ (64 - lenN (z ^^^ a)) / 2 := by
  rw [cut_eq, cut_eq]
  have g1 := gather_lt z
  have g2 := gather_lt (z / 2)
  have g3 := gather_lt a
  have g4 := gather_lt (a / 2)
  have d := fun b : Nat => fun (hb : b < 2 ^ 32) => Nat.lt_of_le_of_lt (Nat.div_le_self b (2 ^ (32 - (n + 1)))) hb
  rw [← join_inj (d _ g1) (d _ g2) (d _ g3) (d _ g4), ← join_div _ _ g1 g2, ← join_div _ _ g3 g4, join_gather z hz, join_gather a ha]
  have e4 : (4 : Nat) ^ (32 - (n + 1)) = 2 ^ (62 - 2 * n) := by
    rw [show (4 : Nat) = 2 ^ 2 from rfl, ← Nat.pow_mul]; congr 1; omega
  rw [e4]
  have key : z / 2 ^ (62 - 2 * n) = a / 2 ^ (62 - 2 * n) ↔ z ^^^ a < 2 ^ (62 - 2 * n) := by
    constructor
    · intro h
      refine Nat.lt_pow_two_of_testBit _ fun j hj => ?_
      have := congrArg (fun t => t.testBit (j - (62 - 2 * n))) h
      simp only [Nat.testBit_div_two_pow] at this
      rw [show j - (62 - 2 * n) + (62 - 2 * n) = j by omega] at this
      simp [Nat.testBit_xor, this]
    · intro h
      refine Nat.eq_of_testBit_eq fun j => ?_
      rw [Nat.testBit_div_two_pow, Nat.testBit_div_two_pow]
      have := tb_out h (show 62 - 2 * n ≤ j + (62 - 2 * n) by omega)
      rw [Nat.testBit_xor] at this
      simpa using this
  rw [key, ← lenN_le]
  have := (lenN_le (z ^^^ a) 64).2 (Nat.xor_lt_two_pow hz ha)
  omega
theorem level_le (z a : Nat) : (64 - lenN (z ^^^ a)) / 2 ≤ 32 := by omega
end Go.Proofs.Ytdomngpkahgoiaa.Zm
