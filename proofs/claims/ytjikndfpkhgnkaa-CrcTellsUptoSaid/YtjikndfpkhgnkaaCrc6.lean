/- The walk over CrcTells. -/
import Derived.Test.YtjikndfpkhgnkaaCrc5a
import Derived.Test.YtjikndfpkhgnkaaArr
namespace Go.Proofs.Ytjikndfpkhgnkaa.Crc
open Go.RowKit Lt
set_option linter.unusedVariables false
set_option linter.unusedSimpArgs false
theorem tabArr_one (k : Nat) : (tabArr k).all (·.oneCell') = true := by
  rw [Array.all_eq_true]
  intro i h
  simp [tabArr, Value.oneCell']
set_option maxHeartbeats 4000000 in
set_option maxRecDepth 100000 in
theorem ctells_walk (vb vc : Value) (b c : List UInt8) (i : Nat) (w : World) (hb : BRd w vb b) (hc : BRd w vc c) (hl : b.length + c.length ≤ 1048576) (hi : i < 256) :
    Calls Try.prog 7 #[vb, vc, .int .u8 (i : Nat)] w fun e w' => e = .returned (.bool true) ∧ Below w.heap.size w w' := by
  obtain ⟨hz, hzs⟩ := zero_of_info zero256
  have hZ : Array.replicate 256 (Value.int .u32 0) = tabArr 0 := by
    apply Array.ext <;> simp [tabArr]
  rw [hZ] at hz
  have HZs := Lib.hid hzs
  clear hzs hZ
  have HT0s := Lib.hid (tabArr_size 0)
  have HTs := Lib.hid (tabArr_size 256)
  have HT1 := Lib.hid (tabArr_one 256)
  have HTi := Lib.hid (tab_get i hi)
  have HSum := Lib.hid (fun W (h : BRd W vb b) => sum_tab vb b W h (by omega))
  have HTb := fun W => table_ok W
  generalize hT0 : tabArr 0 = T0 at *
  generalize hT : tabArr 256 = T at *
  have HTT := Lib.hid (And.intro hT0 hT)
  clear hT0 hT
  have HV := Lib.hid (And.intro hb hc)
  have HAl := fun W => alive2_ok W
  obtain ⟨Ab, cb, rfl, hcb, _, _⟩ := hb
  obtain ⟨Ac, cc, rfl, hcc, _, _⟩ := hc
  go_enter Try.func7, Try.ntmps7
  go_wp2_with fail
  (with_reducible refine (HAl _).mono ?_); rintro e w1 ⟨rfl, hb1⟩
  have H1 := Lib.hid hb1
  clear hb1 HAl
  go_wp2_with fail
  (with_reducible refine (HTb _).mono ?_); rintro e w2 ⟨rfl, hb2⟩
  have H2 := Lib.hid (below_up H1.out hb2)
  clear hb2 HTb
  have HA3 := Lib.hid (alloc_at (w := w2) (.cells T0 61) rfl)
  have HB3 := Lib.hid (below_alloc1 w2 (.cells T0 61))
  go_wp2_with (with_reducible refine wpList_store_rowF rfl 61 _ _ rfl w2.heap.size T rfl rfl 61 T0 HA3.out (by rw [HTs.out]; exact HZs.out) (by rw [HTs.out, HT0s.out]) HT1.out ?_; intro w3 hg3 hf3)
  have HG3 := Lib.hid hg3
  have HB4 : Hid (Below w.heap.size w w3) := Lib.hid (((Fr.of_below (S := fun k => w.heap.size ≤ k) (below_up H2.out HB3.out)).trans hf3 (fun k _ h => by subst h; exact H2.out.size)).toBelow (fun _ h => h) (Nat.le_refl _))
  have HTc : Hid (w3.cell? ⟨w2.heap.size, i, none⟩ = some (.int .u32 (steps 8 i : Nat))) := Lib.hid (by rw [cell_block hg3]; exact HTi.out)
  clear hg3 hf3 hz
  go_loop [8, 9] (fun vx vk => ∃ k : Nat, k ≤ 8 ∧ vk = .int .i64 k ∧ vx = .int .u32 (steps k i : Nat)) (fun _ vk => 8 - (intOf vk).toNat)
  case atStart => exact ⟨0, by omega, rfl, by simp [steps]⟩
  case round =>
  obtain ⟨j, hj, rfl, rfl⟩ := hrel
  have hS := steps_lt j (x := i) (by omega)
  by_cases hj8 : j < 8
  · have hn := steps_succ j i
    generalize steps j i = S at *
    have HN := Lib.hid hn; clear hn
    by_cases hodd : S % 2 = 1
    · have hp : bits .xor .u32 ((S : Int) / 2) 3988292384 = ((S / 2 ^^^ 3988292384 : Nat) : Int) := u32_xor_nat (S / 2) 3988292384 (by omega) (by decide)
      go_wp2
      refine ⟨⟨j + 1, by omega, by simp, ?_⟩, by simp [intOf]; omega⟩
      rw [HN.out]; unfold step; rw [if_pos hodd]; rfl
    · go_wp2
      refine ⟨⟨j + 1, by omega, by simp, ?_⟩, by simp [intOf]; omega⟩
      rw [HN.out]; unfold step; rw [if_neg hodd]; simp
  · have hj2 : j = 8 := by omega
    subst hj2
    generalize steps 8 i = S at *
    have hb5 := below_alloc1 w3 (.cells #[.slice Ab b.length cb, .slice Ac c.length cc] 49)
    have hq5 := alloc_at (w := w3) (.cells #[.slice Ab b.length cb, .slice Ac c.length cc] 49) rfl
    have hr5 := (HV.out.1.below HB4.out).below hb5
    have hr6 := (HV.out.2.below HB4.out).below hb5
    have HSl : Hid (SlAt (w3.alloc (.cells #[.slice Ab b.length cb, .slice Ac c.length cc] 49)) (.slice (some ⟨w3.heap.size, 0, none⟩) 2 2) [b, c]) := Lib.hid (by
      refine ⟨some ⟨w3.heap.size, 0, none⟩, 2, rfl, fun i hi => ?_⟩
      match i, hi with
      | 0, _ => exact ⟨_, _, rfl, cell_block hq5 0, hr5⟩
      | 1, _ => exact ⟨_, _, rfl, by rw [add_plain]; exact cell_block hq5 1, hr6⟩)
    have HB5 := Lib.hid (below_up HB4.out hb5)
    have HG5 := Lib.hid (block_up HG3.out hb5)
    have HTc5 := Lib.hid (cell_up HTc.out hb5)
    have HOf := Lib.hid (of_ok _ _ _ HSl.out (by unfold total; simp; omega) (by simp))
    have hfl : ([b, c] : List (List UInt8)).flatten = b ++ c := by simp
    rw [hfl] at HOf
    obtain ⟨X, hX⟩ : ∃ x, crc (b ++ c) = x := ⟨_, rfl⟩
    obtain ⟨Y, hY⟩ : ∃ x, crc b = x := ⟨_, rfl⟩
    rw [hX] at HOf
    have HX := Lib.hid hX
    have HY := Lib.hid hY
    clear hb5 hq5 hr5 hr6 hfl hX hY
    go_wp2_with fail
    generalize World.alloc w3 _ = w5 at *
    (with_reducible refine HOf.out.mono ?_); rintro e w6 ⟨rfl, hb6⟩
    have HB6 := Lib.hid (below_up HB5.out hb6)
    have HG6 := Lib.hid (block_up HG5.out hb6)
    have HTc6 := Lib.hid (cell_up HTc5.out hb6)
    clear hb6
    have HCt := Lib.hid (cat_ok _ _ b c w6 (HV.out.1.below HB6.out) (HV.out.2.below HB6.out) (by omega))
    go_wp2_with fail
    (with_reducible refine HCt.out.mono ?_); rintro e w7 ⟨v7, rfl, hb7, ho7⟩
    have HB7 := Lib.hid (below_up HB6.out hb7)
    have HG7 := Lib.hid (block_up HG6.out hb7)
    have HTc7 := Lib.hid (cell_up HTc6.out hb7)
    have HR7 := Lib.hid (refsum_ok v7 (b ++ c) w7 (brd_own ho7) (by rw [List.length_append]; omega))
    clear hb7 ho7
    go_wp2_with fail
    (with_reducible refine HR7.out.mono ?_); rintro e w8 ⟨rfl, hw⟩
    subst hw
    have hxe : 4294967295 - (b ++ c).foldl eat 4294967295 = X := HX.out
    rw [hxe]
    clear hxe
    have HS8 := Lib.hid (HSum.out w8 (HV.out.1.below HB7.out))
    rw [HY.out] at HS8
    go_wp2_with (with_reducible refine wpList_load_rowG 61 _ rfl (by simp [Region.wanted, yielded]) w2.heap.size rfl 61 T (0, 0) _ HG7.out Try.underlying61 rfl (by rw [HTs.out]; exact HZs.out) ?_)
    (with_reducible refine HS8.out.mono ?_); rintro e w9 ⟨rfl, hb9⟩
    have HB9 := Lib.hid (below_up HB7.out hb9)
    have HTc9 := Lib.hid (cell_up HTc7.out hb9)
    clear hb9
    have HR9 := Lib.hid (refsum_ok _ b w9 (HV.out.1.below HB9.out) (by omega))
    go_wp2_with fail
    (with_reducible refine HR9.out.mono ?_); rintro e w10 ⟨rfl, hw⟩
    subst hw
    have hye : 4294967295 - b.foldl eat 4294967295 = Y := HY.out
    rw [hye]
    clear hye
    have hcell := HTc9.out
    have bi : (i : Int) < 256 := by omega
    go_wp2
    go_ret
    exact ⟨ret_bool (by simp), HB9.out⟩
end Go.Proofs.Ytjikndfpkhgnkaa.Crc
