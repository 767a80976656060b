/- The walks over the two statements of layer 5 that ask of places in one row. -/
import Derived.Test.YtjikndfpkhgnkaaZmath2
namespace Go.Proofs.Ytjikndfpkhgnkaa.Zw
open Go.RowKit
set_option linter.unusedVariables false
set_option linter.unusedSimpArgs false

theorem below_drewN_self {B : Nat} (W : World) : ∀ n, Below B W (W.drewN n) := fun n => ⟨rfl, rfl, rfl, Nat.le_refl _, fun _ _ => rfl⟩
theorem msk_cut {l x : Nat} (hx : x < 4294967296) (hl : l ≤ 32) : cut l x + msk l < 4294967296 := by
  have hp : 0 < 2 ^ (32 - l) := Nat.two_pow_pos _
  have h1 : x / 2 ^ (32 - l) < 2 ^ l := by
    rw [Nat.div_lt_iff_lt_mul hp, ← Nat.pow_add, show l + (32 - l) = 32 by omega]; exact hx
  have h2 : (x / 2 ^ (32 - l) + 1) * 2 ^ (32 - l) ≤ 2 ^ l * 2 ^ (32 - l) := Nat.mul_le_mul_right _ h1
  rw [← Nat.pow_add, show l + (32 - l) = 32 by omega, Nat.add_mul] at h2
  unfold cut msk
  omega
theorem join_int (x y : Int) (w : World) (hx0 : 0 ≤ x) (hx : x < 4294967296) (hy0 : 0 ≤ y) (hy : y < 4294967296) :
    Calls Try.prog 22 #[.int .u32 x, .int .u32 y] w fun e w' => e = .returned (.int .u64 (Zm.joinN x.toNat y.toNat : Nat)) ∧ w' = w := by
  obtain ⟨a, rfl⟩ := Int.eq_ofNat_of_zero_le hx0
  obtain ⟨b, rfl⟩ := Int.eq_ofNat_of_zero_le hy0
  exact join_ok a b w (by omega) (by omega)
theorem alive5_ok (w : World) : Calls Try.prog 19 #[] w fun e w' => e = .returned (.bool true) ∧ w' = w := by
  have j11 : Zm.joinN 1 1 = 3 := by decide +kernel
  have l03 : (64 - lenN (0 ^^^ 3)) / 2 = 31 := by decide +kernel
  have J := Lib.hid j11; clear j11
  have L := Lib.hid l03; clear l03
  go_enter Try.func19, Try.ntmps19
  go_wp2_with fail
  refine (join_ok 1 1 _ (by decide) (by decide)).mono ?_; rintro e w' ⟨rfl, rfl⟩
  rw [J.out]
  go_wp2_with fail
  refine (level_ok 0 3 _ (by decide) (by decide)).mono ?_; rintro e w' ⟨rfl, rfl⟩
  rw [L.out]
  go_wp2_with fail
  go_ret
  exact ⟨rfl, rfl⟩

set_option maxHeartbeats 2000000 in
theorem rows_walk (x y : Nat) (L : Int) (u v : Nat) (w : World) (hx : x < 4294967296) (hy : y < 4294967296) (h1 : -9223372036854775808 ≤ L) (h2 : L ≤ 9223372036854775807) (hu : u < 4294967296) (hv : v < 4294967296) :
    Calls Try.prog 5 #[.int .u32 x, .int .u32 y, .int .i64 L, .int .u32 u, .int .u32 v] w fun e w' => e = .returned (.bool true) ∧ Below w.heap.size w w' := by
  have hlv := lv_le L
  have hrows := Zm.rows x y u v (lv L) hx hy hu hv hlv
  have HR := Lib.hid hrows; clear hrows
  have hX := cut_lt (l := lv L) hx
  have hY := cut_lt (l := lv L) hy
  have hXm : cut (lv L) x + msk (lv L) < 4294967296 := msk_cut hx hlv
  have hYm : cut (lv L) y + msk (lv L) < 4294967296 := msk_cut hy hlv
  go_enter Try.func5, Try.ntmps5
  go_wp2_with fail
  refine (alive5_ok _).mono ?_; rintro e w' ⟨rfl, rfl⟩
  go_wp2_with fail
  refine (at_ok x y L _ hx hy h1 h2).mono ?_; rintro e w1 ⟨rfl, hb1⟩
  have hz1 := hb1.size
  go_wp2_with fail
  refine (rect_ok _ _ _ _ hX hY (by omega) (by omega)).mono ?_; rintro e w2 ⟨rfl, hb2⟩
  rw [lv_id _ hlv, cut_cut, cut_cut]
  have k0 : ∀ j, w2.cell? ⟨w1.heap.size, j, none⟩ = #[Value.int .u32 (cut (lv L) x : Nat), .int .u32 (cut (lv L) y : Nat), .int .i64 (lv L : Nat)][j]? := fun j => by
    rw [hb2.cell (p := ⟨w1.heap.size, j, none⟩) (by simp)]
    simp
  have hz2 := hb2.size
  simp at hz1 hz2
  have k1 := k0 0
  have k2 := k0 1
  have k3 := k0 2
  simp at k1 k2 k3
  clear k0
  have hlt : w1.heap.size < w2.heap.size := by omega
  clear hz2
  go_wp2_with fail
  go_quiet ((go_at_call 22; exact Calls.quiet_of_same (join_int _ _ _ (by omega) (by omega) (by omega) (by omega))))
  go_wp2_with fail
  rw [show (((cut (lv L) x : Nat) : Int) + (msk (lv L) : Nat)).toNat = cut (lv L) x + msk (lv L) by omega, show (((cut (lv L) y : Nat) : Int) + (msk (lv L) : Nat)).toNat = cut (lv L) y + msk (lv L) by omega,
    Int.toNat_natCast, Int.toNat_natCast, Int.toNat_natCast, Int.toNat_natCast]
  have hj1 := Zm.join_lt (cut (lv L) x) (cut (lv L) y)
  generalize hA : Zm.joinN (cut (lv L) x) (cut (lv L) y) = A at *
  generalize hB : Zm.joinN (cut (lv L) x + msk (lv L)) (cut (lv L) y + msk (lv L)) = B at *
  generalize hZ : Zm.joinN u v = Z at *
  clear hA hB hZ hj1
  refine (has_ok _ _ _ u v _ hX hY hu hv (by omega) (by omega)).mono ?_; rintro e w3 ⟨rfl, hb3⟩
  have hBel : Hid (Below w'.heap.size w' w3) := by
    have q2 := below_up (below_alloc hb1 _) hb2
    refine below_up ?_ hb3
    exact (below_alloc q2 _).trans (below_drewN_self _ _)
  clear hb1 hb2 hb3
  rw [lv_id _ hlv, cut_cut, cut_cut, HR.out]
  by_cases c1 : A ≤ Z
  · have d1 : decide ((A : Int) ≤ Z) = true := decide_eq_true (by omega)
    have d2 : decide (A ≤ Z) = true := decide_eq_true c1
    rw [d2]
    go_wp2
    all_goals go_ret
    all_goals exact ⟨rfl, hBel.out⟩
  · have d1 : decide ((A : Int) ≤ Z) = false := decide_eq_false (by omega)
    have d2 : decide (A ≤ Z) = false := decide_eq_false c1
    rw [d2]
    go_wp2
    go_ret
    exact ⟨rfl, hBel.out⟩

theorem join_round (x y k : Nat) (hx : x < 4294967296) (hy : y < 4294967296) (hk : k < 32) :
    IntKind.u64.wrap (IntKind.u64.wrap (IntKind.u64.wrap (((Zm.joinN (x / 2 ^ (32 - k)) (y / 2 ^ (32 - k)) : Nat) : Int) * 4) + IntKind.u64.wrap (((x : Int) / 2 ^ (31 - k)).tmod 2)) + IntKind.u64.wrap (2 * IntKind.u64.wrap (((y : Int) / 2 ^ (31 - k)).tmod 2)))
      = (Zm.joinN (x / 2 ^ (32 - (k + 1))) (y / 2 ^ (32 - (k + 1))) : Nat) := by
  have half : ∀ b, b / 2 ^ (32 - k) = b / 2 ^ (31 - k) / 2 := fun b => by rw [Nat.div_div_eq_div_mul, show 32 - k = 31 - k + 1 by omega, Nat.pow_succ]
  rw [show 32 - (k + 1) = 31 - k by omega, half, half]
  have e1 : ((x : Int) / 2 ^ (31 - k)) = ((x / 2 ^ (31 - k) : Nat) : Int) := by simp
  have e2 : ((y : Int) / 2 ^ (31 - k)) = ((y / 2 ^ (31 - k) : Nat) : Int) := by simp
  rw [e1, e2]
  have b1 : x / 2 ^ (31 - k) < 4294967296 := Nat.lt_of_le_of_lt (Nat.div_le_self _ _) hx
  have b2 : y / 2 ^ (31 - k) < 4294967296 := Nat.lt_of_le_of_lt (Nat.div_le_self _ _) hy
  generalize x / 2 ^ (31 - k) = a at *
  generalize y / 2 ^ (31 - k) = b at *
  have h := Zm.join_snoc (a / 2) (b / 2) (a % 2) (b % 2) (by omega) (by omega) (by omega) (by omega)
  rw [show 2 * (a / 2) + a % 2 = a by omega, show 2 * (b / 2) + b % 2 = b by omega] at h
  have hl := Zm.join_lt a b
  rw [IntKind.wrap_u64, IntKind.wrap_u64, IntKind.wrap_u64, IntKind.wrap_u64, IntKind.wrap_u64, IntKind.wrap_u64, Int.tmod_eq_emod_of_nonneg (by omega), Int.tmod_eq_emod_of_nonneg (by omega)]
  omega

theorem at_succ (x y n : Nat) (w : World) (hx : x < 4294967296) (hy : y < 4294967296) (h1 : n < 32) :
    Calls Try.prog 21 #[.int .u32 x, .int .u32 y, .int .i64 ((n : Int) + 1)] w fun e w' => e = .returned (.agg #[.int .u32 (cut (n + 1) x : Nat), .int .u32 (cut (n + 1) y : Nat), .int .i64 ((n : Int) + 1)]) ∧ Below w.heap.size w w' :=
  at_ok' x y (n + 1) w hx hy (by omega)
set_option maxHeartbeats 4000000 in
set_option maxRecDepth 100000 in
theorem tells_walk (x y z a : Nat) (w : World) (hx : x < 4294967296) (hy : y < 4294967296) (hz : z < 18446744073709551616) (ha : a < 18446744073709551616) :
    Calls Try.prog 4 #[.int .u32 x, .int .u32 y, .int .u64 z, .int .u64 a] w fun e w' => e = .returned (.bool true) ∧ Below w.heap.size w w' := by
  have HZ := Lib.hid hz; have HA := Lib.hid ha; clear hz ha
  go_enter Try.func4, Try.ntmps4
  go_wp2_with fail
  refine (alive5_ok _).mono ?_; rintro e w' ⟨rfl, rfl⟩
  go_wp2_with fail
  go_loop [9, 10] (fun vj vi => ∃ k : Nat, k ≤ 32 ∧ vi = .int .i64 (31 - k) ∧ vj = .int .u64 (Zm.joinN (x / 2 ^ (32 - k)) (y / 2 ^ (32 - k)) : Nat)) (fun _ vi => (intOf vi + 1).toNat)
  case atStart => exact ⟨0, by omega, rfl, by rw [show x / 2 ^ (32 - 0) = 0 from Nat.div_eq_of_lt hx, show y / 2 ^ (32 - 0) = 0 from Nat.div_eq_of_lt hy, Zm.join_zero]; rfl⟩
  case round =>
    obtain ⟨k, hk, rfl, rfl⟩ := hrel
    by_cases hlt : k < 32
    · have d1 : decide ((0 : Int) ≤ 31 - k) = true := decide_eq_true (by omega)
      go_wp2_with fail
      refine ⟨⟨k + 1, by omega, by go_num, ?_⟩, by simp [intOf]; omega⟩
      rw [join_round x y k hx hy hlt]
    · obtain rfl : k = 32 := by omega
      have HX := Lib.hid hx; have HY := Lib.hid hy; clear hx hy hlt
      simp only [Nat.sub_self, Nat.pow_zero, Nat.div_one]
      go_wp2_with fail
      refine (split_ok z _ HZ.out).mono ?_; rintro e w1 ⟨rfl, rfl⟩
      go_wp2_with fail
      refine (split_ok a _ HA.out).mono ?_; rintro e w1 ⟨rfl, rfl⟩
      go_wp2_with fail
      have hT := Zm.level_le z a
      have hstep := fun n hn => Zm.level_step z a n HZ.out HA.out hn
      have hj := Zm.gather_join x y HX.out HY.out
      have hz := Zm.join_gather z HZ.out
      have hlev := level_ok z a
      have hlevel : ∀ w, Calls Try.prog 23 #[.int .u64 z, .int .u64 a] w fun e w' => e = .returned (.int .i64 ((64 - lenN (z ^^^ a)) / 2 : Nat)) ∧ w' = w := fun w => level_ok z a w HZ.out HA.out
      generalize (64 - lenN (z ^^^ a)) / 2 = T at *
      have HS := Lib.hid hstep; have HJ := Lib.hid hj; have HZG := Lib.hid hz; have HL := Lib.hid hlevel; clear hstep hj hz hlev hlevel
      go_loopw [15] (fun vn wr => ∃ n : Nat, n ≤ T ∧ vn = .int .i64 n ∧ Below w1.heap.size w1 wr) (fun vn _ => 32 - (intOf vn).toNat)
      case atStart => exact ⟨0, by omega, rfl, Below.refl _ _⟩
      case round =>
        obtain ⟨n, hn, rfl, hbel⟩ := hrel
        have g1 := Zm.gather_lt z
        have g2 := Zm.gather_lt (z / 2)
        have g3 := Zm.gather_lt a
        have g4 := Zm.gather_lt (a / 2)
        have eqh : n < 32 → ∀ w, (binOp .eql 36 (.agg #[.int .u32 (cut (n + 1) (Zm.gatherN z) : Nat), .int .u32 (cut (n + 1) (Zm.gatherN (z / 2)) : Nat), .int .i64 ((n : Int) + 1)])
              (.agg #[.int .u32 (cut (n + 1) (Zm.gatherN a) : Nat), .int .u32 (cut (n + 1) (Zm.gatherN (a / 2)) : Nat), .int .i64 ((n : Int) + 1)])).run Try.prog w = .ok (.bool (decide (n + 1 ≤ T))) w := by
          intro hn32 w
          rw [eqlCell]
          congr 2
          rw [Bool.eq_iff_iff, decide_eq_true_eq, ← HS.out n hn32]
          simp [Int.ofNat_inj]
        have G1 := Lib.hid g1; have G2 := Lib.hid g2; have G3 := Lib.hid g3; have G4 := Lib.hid g4; clear g1 g2 g3 g4
        have Eqh := Lib.hid eqh; clear eqh
        by_cases hgo : n < 32 ∧ n + 1 ≤ T
        · obtain ⟨hn32, hgo⟩ := hgo
          have eqc := Eqh.out hn32
          rw [decide_eq_true hgo] at eqc
          go_wp2_with fail
          refine (at_succ _ _ n _ G1.out G2.out hn32).mono ?_; rintro e w2 ⟨rfl, hb2⟩
          go_wp2_with fail
          refine (at_succ _ _ n _ G3.out G4.out hn32).mono ?_; rintro e w3 ⟨rfl, hb3⟩
          go_wp2_with fail
          refine ⟨⟨n + 1, hgo, by go_num, below_up (below_up hbel hb2) hb3⟩, by simp [intOf]; omega⟩
        · have hnT : n = T := by omega
          have HT := Lib.hid hnT; clear hnT
          have tail : True := trivial
          by_cases hn32 : n < 32
          · have eqc := Eqh.out hn32
            rw [show decide (n + 1 ≤ T) = false from decide_eq_false (by omega)] at eqc
            go_wp2_with fail
            refine (at_succ _ _ n _ G1.out G2.out hn32).mono ?_; rintro e w2 ⟨rfl, hb2⟩
            go_wp2_with fail
            refine (at_succ _ _ n _ G3.out G4.out hn32).mono ?_; rintro e w3 ⟨rfl, hb3⟩
            have hbel3 := below_up (below_up hbel hb2) hb3
            clear hb2 hb3 hbel
            go_wp2_with fail
            refine (split_ok _ _ (Zm.join_lt _ _)).mono ?_; rintro e w4 ⟨rfl, rfl⟩
            rw [HJ.out.1, HJ.out.2]
            go_wp2_with fail
            refine (join_ok _ _ _ HX.out HY.out).mono ?_; rintro e w4 ⟨rfl, rfl⟩
            go_wp2_with fail
            refine (join_ok _ _ _ G1.out G2.out).mono ?_; rintro e w4 ⟨rfl, rfl⟩
            rw [HZG.out]
            go_wp2_with fail
            refine (HL.out _).mono ?_; rintro e w4 ⟨rfl, rfl⟩
            rw [HT.out]
            go_wp2_with fail
            go_ret
            exact ⟨rfl, hbel3⟩
          · have hbel3 := hbel
            clear hbel
            go_wp2_with fail
            refine (split_ok _ _ (Zm.join_lt _ _)).mono ?_; rintro e w4 ⟨rfl, rfl⟩
            rw [HJ.out.1, HJ.out.2]
            go_wp2_with fail
            refine (join_ok _ _ _ HX.out HY.out).mono ?_; rintro e w4 ⟨rfl, rfl⟩
            go_wp2_with fail
            refine (join_ok _ _ _ G1.out G2.out).mono ?_; rintro e w4 ⟨rfl, rfl⟩
            rw [HZG.out]
            go_wp2_with fail
            refine (HL.out _).mono ?_; rintro e w4 ⟨rfl, rfl⟩
            rw [HT.out]
            go_wp2_with fail
            go_ret
            exact ⟨rfl, hbel3⟩
end Go.Proofs.Ytjikndfpkhgnkaa.Zw
