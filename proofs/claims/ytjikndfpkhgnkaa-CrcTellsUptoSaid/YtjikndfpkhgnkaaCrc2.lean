/- The walk over crc.Sum. -/
import Derived.Test.YtjikndfpkhgnkaaCrc
namespace Go.Proofs.Ytjikndfpkhgnkaa.Crc
open Go.RowKit
set_option linter.unusedVariables false
set_option linter.unusedSimpArgs false
theorem u32_and255 (s : Nat) (h : s < 4294967296) : bits .and .u32 (s : Int) 255 = ((s % 256 : Nat) : Int) := by
  have := u32_and_nat s 255 h (by decide)
  rw [show (255 : Nat) = 2 ^ 8 - 1 from rfl, Nat.and_two_pow_sub_one_eq_mod] at this
  exact this
theorem flip_nat (s : Nat) (h : s < 4294967296) : 4294967295 ^^^ s = 4294967295 - s := by
  apply Nat.eq_of_testBit_eq
  intro i
  have h1 : 4294967295 - s = 2 ^ 32 - (s + 1) := by omega
  rw [h1, Nat.testBit_two_pow_sub_succ (show s < 2 ^ 32 from h), Nat.testBit_xor, show (4294967295 : Nat) = 2 ^ 32 - 1 from rfl, Nat.testBit_two_pow_sub_one]
  by_cases hi : i < 32
  · simp [hi]
  · have : s.testBit i = false := Nat.testBit_lt_two_pow (Nat.lt_of_lt_of_le h (Nat.pow_le_pow_right (n := 2) (by decide) (by omega : 32 ≤ i)))
    simp [hi, this]
theorem u32_flip (s : Nat) (h : s < 4294967296) : bits .xor .u32 IntKind.u32.max (s : Int) = ((4294967295 - s : Nat) : Int) := by
  have := u32_xor_nat 4294967295 s (by decide) h
  rw [flip_nat s h] at this
  exact this
theorem foldT_lt {t : Nat → Nat} (ht : ∀ i, i < 256 → t i < 4294967296) (l : List UInt8) {s : Nat} (h : s < 4294967296) : l.foldl (eatT t) s < 4294967296 := by
  induction l generalizing s with
  | nil => exact h
  | cons c l ih => exact ih (eatT_lt ht h c)
set_option maxHeartbeats 2000000 in
set_option maxRecDepth 100000 in
theorem sum_ok (T : Array Value) (t : Nat → Nat) (v : Value) (l : List UInt8) (w : World) (hT : T.size = 256) (ht : ∀ i, i < 256 → T[i]? = some (.int .u32 (t i : Nat))) (htl : ∀ i, i < 256 → t i < 4294967296) (hv : BRd w v l) (hl : l.length ≤ 9223372036854775800) :
    Calls Try.prog 39 #[.agg T, v] w fun e w' => e = .returned (.int .u32 (4294967295 - l.foldl (eatT t) 4294967295 : Nat)) ∧ Below w.heap.size w w' := by
  obtain ⟨A, c, rfl, hlc, hr, hA⟩ := hv
  have HR := Lib.hid (And.intro hr (And.intro ht htl)); clear hr hA ht htl
  have HT := Lib.hid hT; clear hT
  go_enter Try.func39, Try.ntmps39
  go_wp2_with fail
  have hblk : (w.alloc (.cells T 61)).heap[w.heap.size]? = some (.cells T 61 (0, 0)) := alloc_at _ rfl
  have hbel : Below w.heap.size w (w.alloc (.cells T 61)) := below_alloc1 w _
  generalize (w.alloc (.cells T 61)) = w1 at *
  have HB := Lib.hid (And.intro hblk hbel); clear hblk hbel
  go_loop [5, 10] (fun vs vi => ∃ k : Nat, k ≤ l.length ∧ vi = .int .i64 k ∧ vs = .int .u32 ((l.take k).foldl (eatT t) 4294967295 : Nat)) (fun _ vi => l.length - (intOf vi).toNat)
  case atStart => exact ⟨0, by omega, rfl, by simp⟩
  obtain ⟨k, hk, rfl, rfl⟩ := hrel
  have hlt32 := foldT_lt HR.out.2.2 (l.take k) (s := 4294967295) (by decide)
  by_cases hlt : k < l.length
  · have d : decide ((k : Int) < l.length) = true := decide_eq_true (by omega)
    obtain ⟨ad, rfl, hcell⟩ := HR.out.1.at_ (i := k) (by rw [bv_length]; exact hlt)
    have hcell := cell_up hcell HB.out.2
    have hcv : (bv l)[k]'(by rw [bv_length]; exact hlt) = .int .u8 l[k].toNat := by simp [bv]
    rw [hcv] at hcell
    have hc8 := l[k].toNat_lt
    have hnext : (l.take (k + 1)).foldl (eatT t) 4294967295 = t (((l.take k).foldl (eatT t) 4294967295 ^^^ l[k].toNat) % 256) ^^^ (l.take k).foldl (eatT t) 4294967295 / 256 := by
      rw [List.take_succ_eq_append_getElem hlt, List.foldl_append]; rfl
    generalize (l.take k).foldl (eatT t) 4294967295 = s at *
    generalize l[k].toNat = C at *
    have hx := Nat.xor_lt_two_pow (n := 32) (x := s) (y := C) (by omega) (by omega)
    have hxv : bits .xor .u32 (s : Int) (C : Int) = ((s ^^^ C : Nat) : Int) := u32_xor_nat s C (by omega) (by omega)
    generalize s ^^^ C = X at *
    have hand := u32_and255 X (by omega)
    have hi256 : X % 256 < 256 := Nat.mod_lt _ (by decide)
    have htc := cell_block HB.out.1 (X % 256)
    rw [HR.out.2.1 _ hi256] at htc
    have htb := HR.out.2.2 _ hi256
    generalize X % 256 = I at *
    have hxw : bits .xor .u32 ((t I : Nat) : Int) ((s : Int) / 256) = ((t I ^^^ s / 256 : Nat) : Int) := u32_xor_nat (t I) (s / 256) htb (by omega)
    generalize t I = TI at *
    have HN := Lib.hid hnext; clear hnext
    go_wp2
    exact ⟨⟨k + 1, by omega, by simp, by rw [HN.out]⟩, by simp [intOf]; omega⟩
  · have hkl : k = l.length := by omega
    subst hkl
    rw [List.take_length] at *
    have d : decide ((l.length : Int) < l.length) = false := decide_eq_false (by omega)
    go_wp2
    go_ret
    refine ⟨ret_int ?_, HB.out.2⟩
    exact u32_flip _ hlt32
end Go.Proofs.Ytjikndfpkhgnkaa.Crc
