/- Plain facts on bits: numbers spread and gathered bit by bit (no program in sight). -/
namespace Go.Proofs.Ytdomngpkahgoiaa.Zm

def st (h m z : Nat) : Nat := (z ||| (z * 2 ^ h % 2 ^ 64)) &&& m
def spreadN (n : Nat) : Nat :=
  st 1 0x5555555555555555 (st 2 0x3333333333333333 (st 4 0x0f0f0f0f0f0f0f0f (st 8 0x00ff00ff00ff00ff (st 16 0x0000ffff0000ffff n))))
def ga (h m z : Nat) : Nat := (z ||| (z / 2 ^ h)) &&& m
def gatherN (z : Nat) : Nat :=
  ga 16 0x00000000ffffffff (ga 8 0x0000ffff0000ffff (ga 4 0x00ff00ff00ff00ff (ga 2 0x0f0f0f0f0f0f0f0f (ga 1 0x3333333333333333 (z &&& 0x5555555555555555)))))
def joinN (x y : Nat) : Nat := spreadN x ||| (spreadN y * 2 ^ 1 % 2 ^ 64)

theorem st_lt (h m z : Nat) (hm : m < 2 ^ 64) : st h m z < 2 ^ 64 := Nat.lt_of_le_of_lt Nat.and_le_right hm
theorem ga_lt (h m z b : Nat) (hm : m < 2 ^ b) : ga h m z < 2 ^ b := Nat.lt_of_le_of_lt Nat.and_le_right hm
theorem tb_out {z j b : Nat} (hz : z < 2 ^ b) (hj : b ≤ j) : z.testBit j = false :=
  Nat.testBit_lt_two_pow (Nat.lt_of_lt_of_le hz (Nat.pow_le_pow_right (by decide) hj))
theorem st_bit (h m z j : Nat) (hj : j < 64) : (st h m z).testBit j = ((z.testBit j || (decide (h ≤ j) && z.testBit (j - h))) && m.testBit j) := by
  rw [st, Nat.testBit_and, Nat.testBit_or, Nat.testBit_mod_two_pow, Nat.testBit_mul_two_pow]
  simp [hj]
theorem ga_bit (h m z j : Nat) : (ga h m z).testBit j = ((z.testBit j || z.testBit (j + h)) && m.testBit j) := by
  simp [ga, Nat.testBit_and, Nat.testBit_or, Nat.testBit_div_two_pow, Nat.add_comm]

theorem m16 : ∀ j, j < 64 → (0x0000ffff0000ffff : Nat).testBit j = decide ((j / 16) % 2 = 0) := by decide +kernel
theorem m8 : ∀ j, j < 64 → (0x00ff00ff00ff00ff : Nat).testBit j = decide ((j / 8) % 2 = 0) := by decide +kernel
theorem m4 : ∀ j, j < 64 → (0x0f0f0f0f0f0f0f0f : Nat).testBit j = decide ((j / 4) % 2 = 0) := by decide +kernel
theorem m2 : ∀ j, j < 64 → (0x3333333333333333 : Nat).testBit j = decide ((j / 2) % 2 = 0) := by decide +kernel
theorem m1 : ∀ j, j < 64 → (0x5555555555555555 : Nat).testBit j = decide (j % 2 = 0) := by decide +kernel
theorem m32 : ∀ j, j < 64 → (0x00000000ffffffff : Nat).testBit j = decide ((j / 32) % 2 = 0) := by decide +kernel

/-- z holds n's bits, in blocks of s, every other one. -/
def In (s n z : Nat) : Prop := ∀ j, j < 64 → z.testBit j = (decide ((j / s) % 2 = 0) && n.testBit (j / (2 * s) * s + j % s))

theorem in_step {s h m n z : Nat} (hs : s = 2 * h) (h0 : h = 16 ∨ h = 8 ∨ h = 4 ∨ h = 2 ∨ h = 1) (hm : ∀ j, j < 64 → m.testBit j = decide ((j / h) % 2 = 0)) (hz : In s n z) : In h n (st h m z) := by
  intro j hj
  subst hs
  have hz2 := hz (j - h) (by omega)
  rw [st_bit _ _ _ _ hj, hm j hj, hz j hj, hz2]
  rcases h0 with rfl | rfl | rfl | rfl | rfl
  · by_cases hp : j / 16 % 2 = 0
    · by_cases hp4 : j / 32 % 2 = 0
      · rw [show j / (2 * (2 * 16)) * (2 * 16) + j % (2 * 16) = j / (2 * 16) * 16 + j % 16 by omega]
        by_cases hl : 16 ≤ j
        · simp [hp, hp4, show ¬ (j - 16) / 32 % 2 = 0 by omega]
        · simp [hp, hp4, hl]
      · rw [show (j - 16) / (2 * (2 * 16)) * (2 * 16) + (j - 16) % (2 * 16) = j / (2 * 16) * 16 + j % 16 by omega]
        simp [hp, hp4, show (j - 16) / 32 % 2 = 0 by omega, show 16 ≤ j by omega]
    · simp [hp]
  · by_cases hp : j / 8 % 2 = 0
    · by_cases hp4 : j / 16 % 2 = 0
      · rw [show j / (2 * (2 * 8)) * (2 * 8) + j % (2 * 8) = j / (2 * 8) * 8 + j % 8 by omega]
        by_cases hl : 8 ≤ j
        · simp [hp, hp4, show ¬ (j - 8) / 16 % 2 = 0 by omega]
        · simp [hp, hp4, hl]
      · rw [show (j - 8) / (2 * (2 * 8)) * (2 * 8) + (j - 8) % (2 * 8) = j / (2 * 8) * 8 + j % 8 by omega]
        simp [hp, hp4, show (j - 8) / 16 % 2 = 0 by omega, show 8 ≤ j by omega]
    · simp [hp]
  · by_cases hp : j / 4 % 2 = 0
    · by_cases hp4 : j / 8 % 2 = 0
      · rw [show j / (2 * (2 * 4)) * (2 * 4) + j % (2 * 4) = j / (2 * 4) * 4 + j % 4 by omega]
        by_cases hl : 4 ≤ j
        · simp [hp, hp4, show ¬ (j - 4) / 8 % 2 = 0 by omega]
        · simp [hp, hp4, hl]
      · rw [show (j - 4) / (2 * (2 * 4)) * (2 * 4) + (j - 4) % (2 * 4) = j / (2 * 4) * 4 + j % 4 by omega]
        simp [hp, hp4, show (j - 4) / 8 % 2 = 0 by omega, show 4 ≤ j by omega]
    · simp [hp]
  · by_cases hp : j / 2 % 2 = 0
    · by_cases hp4 : j / 4 % 2 = 0
      · rw [show j / (2 * (2 * 2)) * (2 * 2) + j % (2 * 2) = j / (2 * 2) * 2 + j % 2 by omega]
        by_cases hl : 2 ≤ j
        · simp [hp, hp4, show ¬ (j - 2) / 4 % 2 = 0 by omega]
        · simp [hp, hp4, hl]
      · rw [show (j - 2) / (2 * (2 * 2)) * (2 * 2) + (j - 2) % (2 * 2) = j / (2 * 2) * 2 + j % 2 by omega]
        simp [hp, hp4, show (j - 2) / 4 % 2 = 0 by omega, show 2 ≤ j by omega]
    · simp [hp]
  · by_cases hp : j / 1 % 2 = 0
    · by_cases hp4 : j / 2 % 2 = 0
      · rw [show j / (2 * (2 * 1)) * (2 * 1) + j % (2 * 1) = j / (2 * 1) * 1 + j % 1 by omega]
        by_cases hl : 1 ≤ j
        · simp [hp4, show ¬ (j - 1) / 2 % 2 = 0 by omega, show j % 2 = 0 by omega]
        · simp [hp4, hl, show j % 2 = 0 by omega]
      · rw [show (j - 1) / (2 * (2 * 1)) * (2 * 1) + (j - 1) % (2 * 1) = j / (2 * 1) * 1 + j % 1 by omega]
        simp [hp4, show (j - 1) / 2 % 2 = 0 by omega, show 1 ≤ j by omega, show j % 2 = 0 by omega]
    · simp [show ¬ j % 2 = 0 by omega]

theorem spread_bit (n : Nat) (hn : n < 2 ^ 32) (j : Nat) (hj : j < 64) : (spreadN n).testBit j = (decide (j % 2 = 0) && n.testBit (j / 2)) := by
  have i0 : In 32 n n := by
    intro j hj
    by_cases h : j < 32
    · rw [show j / (2 * 32) * 32 + j % 32 = j by omega, show j / 32 % 2 = 0 by omega]; simp
    · rw [tb_out hn (by omega), show j / 32 % 2 = 1 by omega]; simp
  have i1 := in_step (h := 16) rfl (by omega) m16 i0
  have i2 := in_step (h := 8) rfl (by omega) m8 i1
  have i3 := in_step (h := 4) rfl (by omega) m4 i2
  have i4 := in_step (h := 2) rfl (by omega) m2 i3
  have i5 := in_step (h := 1) rfl (by omega) (fun j hj => by rw [Nat.div_one]; exact m1 j hj) i4
  have := i5 j hj
  rw [Nat.div_one, Nat.mod_one, Nat.mul_one, Nat.mul_one, Nat.add_zero] at this
  exact this
theorem spread_lt (n : Nat) : spreadN n < 2 ^ 64 := st_lt _ _ _ (by decide)

theorem join_lt (x y : Nat) : joinN x y < 2 ^ 64 := Nat.or_lt_two_pow (spread_lt _) (Nat.mod_lt _ (by decide))
theorem join_bit (x y : Nat) (hx : x < 2 ^ 32) (hy : y < 2 ^ 32) (j : Nat) (hj : j < 64) :
    (joinN x y).testBit j = if j % 2 = 0 then x.testBit (j / 2) else y.testBit (j / 2) := by
  rw [joinN, Nat.testBit_or, spread_bit x hx j hj, Nat.testBit_mod_two_pow, Nat.testBit_mul_two_pow]
  by_cases h : j % 2 = 0
  · by_cases h1 : 1 ≤ j
    · rw [spread_bit y hy (j - 1) (by omega)]; simp [h, show ¬ (j - 1) % 2 = 0 by omega]
    · simp [h, h1]
  · rw [spread_bit y hy (j - 1) (by omega)]; simp [h, hj, show 1 ≤ j by omega, show (j - 1) % 2 = 0 by omega, show (j - 1) / 2 = j / 2 by omega]

/-- z holds, in blocks of s, every other block, n's even bits. -/
def Ga (s n z : Nat) : Prop := ∀ j, j < 64 → z.testBit j = (decide ((j / s) % 2 = 0) && n.testBit (2 * (j / (2 * s) * s + j % s)))
theorem ga_step {s m n z : Nat} (h0 : s = 1 ∨ s = 2 ∨ s = 4 ∨ s = 8 ∨ s = 16) (hzl : z < 2 ^ 64) (hm : ∀ j, j < 64 → m.testBit j = decide ((j / (2 * s)) % 2 = 0)) (hz : Ga s n z) : Ga (2 * s) n (ga s m z) := by
  have hz' : ∀ j, z.testBit j = (decide (j < 64) && (decide ((j / s) % 2 = 0) && n.testBit (2 * (j / (2 * s) * s + j % s)))) := by
    intro j
    by_cases h : j < 64
    · rw [hz j h]; simp [h]
    · rw [tb_out hzl (by omega)]; simp [h]
  intro j hj
  rw [ga_bit, hm j hj, hz' j, hz' (j + s)]
  rcases h0 with rfl | rfl | rfl | rfl | rfl
  · by_cases hp : j / 2 % 2 = 0
    · by_cases hp2 : j / 1 % 2 = 0
      · rw [show j / (2 * 1) * 1 + j % 1 = j / (2 * (2 * 1)) * (2 * 1) + j % (2 * 1) by omega]
        simp [hp, show j % 2 = 0 by omega, hj, show ¬ (j + 1) / 1 % 2 = 0 by omega, show ¬ (j + 1) % 2 = 0 by omega]
      · by_cases hb : j + 1 < 64
        · rw [show (j + 1) / (2 * 1) * 1 + (j + 1) % 1 = j / (2 * (2 * 1)) * (2 * 1) + j % (2 * 1) by omega]
          simp [hp, show ¬ j % 2 = 0 by omega, hb, show (j + 1) / 1 % 2 = 0 by omega, show (j + 1) % 2 = 0 by omega]
        · omega
    · simp [hp]
  · by_cases hp : j / 4 % 2 = 0
    · by_cases hp2 : j / 2 % 2 = 0
      · rw [show j / (2 * 2) * 2 + j % 2 = j / (2 * (2 * 2)) * (2 * 2) + j % (2 * 2) by omega]
        simp [hp, hp2, hj, show ¬ (j / 2 + 1) % 2 = 0 by omega]
      · by_cases hb : j + 2 < 64
        · rw [show (j + 2) / (2 * 2) * 2 + (j + 2) % 2 = j / (2 * (2 * 2)) * (2 * 2) + j % (2 * 2) by omega]
          simp [hp, hp2, hb, show (j / 2 + 1) % 2 = 0 by omega]
        · omega
    · simp [hp]
  · by_cases hp : j / 8 % 2 = 0
    · by_cases hp2 : j / 4 % 2 = 0
      · rw [show j / (2 * 4) * 4 + j % 4 = j / (2 * (2 * 4)) * (2 * 4) + j % (2 * 4) by omega]
        simp [hp, hp2, hj, show ¬ (j / 4 + 1) % 2 = 0 by omega]
      · by_cases hb : j + 4 < 64
        · rw [show (j + 4) / (2 * 4) * 4 + (j + 4) % 4 = j / (2 * (2 * 4)) * (2 * 4) + j % (2 * 4) by omega]
          simp [hp, hp2, hb, show (j / 4 + 1) % 2 = 0 by omega]
        · omega
    · simp [hp]
  · by_cases hp : j / 16 % 2 = 0
    · by_cases hp2 : j / 8 % 2 = 0
      · rw [show j / (2 * 8) * 8 + j % 8 = j / (2 * (2 * 8)) * (2 * 8) + j % (2 * 8) by omega]
        simp [hp, hp2, hj, show ¬ (j / 8 + 1) % 2 = 0 by omega]
      · by_cases hb : j + 8 < 64
        · rw [show (j + 8) / (2 * 8) * 8 + (j + 8) % 8 = j / (2 * (2 * 8)) * (2 * 8) + j % (2 * 8) by omega]
          simp [hp, hp2, hb, show (j / 8 + 1) % 2 = 0 by omega]
        · omega
    · simp [hp]
  · by_cases hp : j / 32 % 2 = 0
    · by_cases hp2 : j / 16 % 2 = 0
      · rw [show j / (2 * 16) * 16 + j % 16 = j / (2 * (2 * 16)) * (2 * 16) + j % (2 * 16) by omega]
        simp [hp, hp2, hj, show ¬ (j / 16 + 1) % 2 = 0 by omega]
      · by_cases hb : j + 16 < 64
        · rw [show (j + 16) / (2 * 16) * 16 + (j + 16) % 16 = j / (2 * (2 * 16)) * (2 * 16) + j % (2 * 16) by omega]
          simp [hp, hp2, hb, show (j / 16 + 1) % 2 = 0 by omega]
        · omega
    · simp [hp]

theorem gather_bit (z : Nat) (hz : z < 2 ^ 64) (j : Nat) (hj : j < 64) : (gatherN z).testBit j = (decide (j < 32) && z.testBit (2 * j)) := by
  have i0 : Ga 1 z (z &&& 0x5555555555555555) := by
    intro j hj
    rw [Nat.testBit_and, m1 j hj, Nat.div_one, Nat.mod_one, Nat.add_zero, Nat.mul_one, Nat.mul_one]
    by_cases h : j % 2 = 0
    · rw [show 2 * (j / 2) = j by omega]; simp [h]
    · simp [h]
  have l0 : z &&& 0x5555555555555555 < 2 ^ 64 := Nat.lt_of_le_of_lt Nat.and_le_right (by decide)
  have i1 := ga_step (m := 0x3333333333333333) (by omega) l0 m2 i0
  have i2 := ga_step (m := 0x0f0f0f0f0f0f0f0f) (by omega) (ga_lt _ _ _ 64 (by decide)) m4 i1
  have i3 := ga_step (m := 0x00ff00ff00ff00ff) (by omega) (ga_lt _ _ _ 64 (by decide)) m8 i2
  have i4 := ga_step (m := 0x0000ffff0000ffff) (by omega) (ga_lt _ _ _ 64 (by decide)) m16 i3
  have i5 := ga_step (m := 0x00000000ffffffff) (by omega) (ga_lt _ _ _ 64 (by decide)) m32 i4
  have := i5 j hj
  by_cases h : j < 32
  · rw [show j / (2 * (2 * (2 * (2 * (2 * (2 * 1)))))) * (2 * (2 * (2 * (2 * (2 * 1))))) + j % (2 * (2 * (2 * (2 * (2 * 1))))) = j by omega, show j / (2 * (2 * (2 * (2 * (2 * 1))))) % 2 = 0 by omega] at this
    rw [gatherN, this]; simp [h]
  · rw [show j / (2 * (2 * (2 * (2 * (2 * 1))))) % 2 = 1 by omega] at this
    rw [gatherN, this]; simp [h]
theorem gather_lt (z : Nat) : gatherN z < 2 ^ 32 := ga_lt _ _ _ 32 (by decide)

theorem gather_bit' (z : Nat) (hz : z < 2 ^ 64) (j : Nat) (hj : j < 32) : (gatherN z).testBit j = z.testBit (2 * j) := by rw [gather_bit z hz j (by omega)]; simp [hj]
theorem gather_bit1 (z : Nat) (hz : z < 2 ^ 64) (j : Nat) (hj : j < 32) : (gatherN (z / 2)).testBit j = z.testBit (2 * j + 1) := by
  rw [gather_bit' (z / 2) (by omega) j hj, Nat.testBit_succ]

theorem join_gather (z : Nat) (hz : z < 2 ^ 64) : joinN (gatherN z) (gatherN (z / 2)) = z := by
  refine Nat.eq_of_testBit_eq fun j => ?_
  by_cases hj : j < 64
  · rw [join_bit _ _ (gather_lt _) (gather_lt _) j hj]
    by_cases h : j % 2 = 0
    · rw [if_pos h, gather_bit' z hz _ (by omega), show 2 * (j / 2) = j by omega]
    · rw [if_neg h, gather_bit1 z hz _ (by omega), show 2 * (j / 2) + 1 = j by omega]
  · rw [tb_out hz (by omega), tb_out (join_lt _ _) (by omega)]
theorem gather_join (x y : Nat) (hx : x < 2 ^ 32) (hy : y < 2 ^ 32) : gatherN (joinN x y) = x ∧ gatherN (joinN x y / 2) = y := by
  constructor
  · refine Nat.eq_of_testBit_eq fun j => ?_
    by_cases hj : j < 32
    · rw [gather_bit' _ (join_lt _ _) j hj, join_bit x y hx hy _ (by omega), if_pos (by omega), show 2 * j / 2 = j by omega]
    · rw [tb_out hx (by omega), tb_out (gather_lt _) (by omega)]
  · refine Nat.eq_of_testBit_eq fun j => ?_
    by_cases hj : j < 32
    · rw [gather_bit1 _ (join_lt _ _) j hj, join_bit x y hx hy _ (by omega), if_neg (by omega), show (2 * j + 1) / 2 = j by omega]
    · rw [tb_out hy (by omega), tb_out (gather_lt _) (by omega)]

/-- one bit more of each, below. -/
theorem join_snoc (a b p q : Nat) (ha : 2 * a + p < 2 ^ 32) (hb : 2 * b + q < 2 ^ 32) (hp : p < 2) (hq : q < 2) :
    joinN (2 * a + p) (2 * b + q) = joinN a b * 4 + p + 2 * q := by
  have hl : joinN a b < 2 ^ 62 := by
    refine Nat.lt_pow_two_of_testBit _ fun j hj => ?_
    by_cases h64 : j < 64
    · rw [join_bit a b (by omega) (by omega) j h64]
      split
      · exact tb_out (b := 31) (by omega) (by omega)
      · exact tb_out (b := 31) (by omega) (by omega)
    · exact tb_out (join_lt _ _) (by omega)
  refine Nat.eq_of_testBit_eq fun j => ?_
  by_cases hj : j < 64
  · rw [join_bit _ _ ha hb j hj]
    match j, hj with
    | 0, _ =>
      simp only [Nat.zero_mod, if_pos, Nat.zero_div, Nat.testBit_zero]
      congr 1
      rw [eq_iff_iff]; omega
    | 1, _ =>
      simp only [show 1 % 2 = 1 from rfl, Nat.one_ne_zero, if_false, show 1 / 2 = 0 from rfl]
      rw [Nat.testBit_succ]
      simp only [Nat.testBit_zero]
      congr 1
      rw [eq_iff_iff]; omega
    | j + 2, hj =>
      rw [Nat.testBit_succ, Nat.testBit_succ, show (joinN a b * 4 + p + 2 * q) / 2 / 2 = joinN a b by omega, join_bit a b (by omega) (by omega) j (by omega)]
      rw [show (j + 2) % 2 = j % 2 by omega, show (j + 2) / 2 = j / 2 + 1 by omega, Nat.testBit_succ, Nat.testBit_succ, show (2 * a + p) / 2 = a by omega, show (2 * b + q) / 2 = b by omega]
  · rw [tb_out (join_lt _ _) (by omega), tb_out (b := 64) (by omega) (by omega)]
theorem join_zero : joinN 0 0 = 0 := by decide +kernel

end Go.Proofs.Ytdomngpkahgoiaa.Zm
