/- The walks over the laws of package crc: alive, CrcTables. -/
import Derived.Test.YtjikndfpkhgnkaaCrc5a
import Derived.Lib.SlBytesConst
namespace Go.Proofs.Ytjikndfpkhgnkaa.Crc
open Go.RowKit
set_option linter.unusedVariables false
set_option linter.unusedSimpArgs false
/-- What the law lays into its table. -/
def sd (seed : Nat) : Nat → Nat
  | 0 => seed
  | k + 1 => (sd seed k * 1664525 + 1013904223) % 4294967296
theorem sd_lt (seed : Nat) (h : seed < 4294967296) : ∀ k, sd seed k < 4294967296
  | 0 => h
  | k + 1 => Nat.mod_lt _ (by decide)
theorem sd_succ (seed k : Nat) : sd seed (k + 1) = (sd seed k * 1664525 + 1013904223) % 4294967296 := rfl
theorem sd_zero (seed : Nat) : sd seed 0 = seed := rfl
attribute [irreducible] sd
def arrOf (f : Nat → Nat) (k : Nat) : Array Value := (Array.range 256).map fun i => .int .u32 (if i < k then f i else 0 : Nat)
theorem arrOf_size (f : Nat → Nat) (k : Nat) : (arrOf f k).size = 256 := by simp [arrOf]
theorem arrOf_set (f : Nat → Nat) (k : Nat) (h : k < 256) : (arrOf f k).setIfInBounds k (.int .u32 (f k : Nat)) = arrOf f (k + 1) := by
  apply Array.ext
  · simp [arrOf]
  · intro i h1 h2
    have hi : i < (arrOf f k).size := by simpa using h1
    rw [Array.getElem_setIfInBounds hi]
    simp only [arrOf, Array.getElem_map, Array.getElem_range]
    by_cases e : k = i
    · subst e; simp
    · rw [if_neg e]
      by_cases e2 : i < k
      · rw [if_pos e2, if_pos (by omega)]
      · rw [if_neg e2, if_neg (by omega)]
theorem arrOf_get (f : Nat → Nat) (k i : Nat) (h : i < 256) : (arrOf f k)[i]? = some (.int .u32 (if i < k then f i else 0 : Nat)) := by
  rw [Array.getElem?_eq_getElem (by rw [arrOf_size]; exact h)]
  simp [arrOf]
set_option maxHeartbeats 2000000 in
set_option maxRecDepth 100000 in
theorem tables_walk (seed : Nat) (v : Value) (l : List UInt8) (w : World) (hs : seed < 4294967296) (hv : BRd w v l) (hl : l.length ≤ 140737488351232) :
    Calls Try.prog 8 #[.int .u32 seed, v] w fun e w' => e = .returned (.bool true) ∧ Below w.heap.size w w' := by
  obtain ⟨hz, hzs⟩ := zero_of_info zero256
  have hZ : Array.replicate 256 (Value.int .u32 0) = tabArr 0 := by
    apply Array.ext <;> simp [tabArr]
  rw [hZ] at hz
  have HS := Lib.hid hzs; clear hzs hZ
  generalize hT0 : tabArr 0 = T0 at *
  have HT := Lib.hid hT0; clear hT0
  have HV := Lib.hid hv
  obtain ⟨A, c, rfl, hlc, _, _⟩ := hv
  go_enter Try.func8, Try.ntmps8
  go_wp2_with fail
  refine (alive2_ok w).mono ?_; rintro e w1 ⟨rfl, hb1⟩
  have H1 := Lib.hid hb1; clear hb1
  go_wp2_with fail
  have hz1 := H1.out.size
  go_loopw [0, 6] (fun vs vi W => ∃ k : Nat, k ≤ 256 ∧ vi = .int .i64 k ∧ vs = .int .u32 (sd seed k : Nat) ∧ W.heap[w1.heap.size]? = some (.cells (arrOf (fun i => sd seed (i + 1)) k) 61 (0, 0)) ∧ Below w.heap.size w W) (fun _ vi _ => 256 - (intOf vi).toNat)
  case atStart =>
    refine ⟨0, by omega, rfl, by rw [sd_zero], ?_, below_alloc H1.out _⟩
    rw [show arrOf (fun i => sd seed (i + 1)) 0 = T0 by rw [← HT.out]; simp [arrOf, tabArr]]
    exact alloc_at _ rfl
  obtain ⟨k, hk, rfl, rfl, hblk, hbel⟩ := hrel
  by_cases hlt : k < 256
  · have d : decide ((k : Int) < 256) = true := decide_eq_true (by omega)
    have hc := cell_block hblk k
    rw [arrOf_get _ k k hlt, if_neg (Nat.lt_irrefl k)] at hc
    have hf := free_block hblk k
    have H := Lib.hid (And.intro hblk hbel); clear hblk hbel
    have hsn : sd seed (k + 1) = (sd seed k * 1664525 + 1013904223) % 4294967296 := sd_succ seed k
    have hsl := sd_lt seed hs k
    have hset := arrOf_set (fun i => sd seed (i + 1)) k hlt
    have HX := Lib.hid (And.intro hsn hset); clear hsn hset
    generalize sd seed k = S at *
    have e1 : ((S : Int) * 1664525 % 4294967296 + 1013904223) % 4294967296 = (((S * 1664525 + 1013904223) % 4294967296 : Nat) : Int) := by omega
    have e2 : ((S : Int) * 1664525 + 1013904223) % 4294967296 = (((S * 1664525 + 1013904223) % 4294967296 : Nat) : Int) := by omega
    have HE := Lib.hid (And.intro e1 e2); clear e1 e2
    go_wp2
    rw [HE.out.1, HE.out.2, ← HX.out.1]
    refine ⟨⟨k + 1, by omega, by simp, rfl, ?_, H.out.2.setCell (by simpa using hz1) _⟩, by simp [intOf]; omega⟩
    rw [blk_set H.out.1]
    exact congrArg (fun c => some (Obj.cells c 61 (0, 0))) HX.out.2
  · have hkl : k = 256 := by omega
    subst hkl
    have hi : (Try.prog.info? 61).map (·.size) = some (arrOf (fun i => sd seed (i + 1)) 256).size := by rw [arrOf_size]; exact HS.out
    have hld := run_loadVar_row wr w1.heap.size 61 61 _ (0, 0) _ hblk Try.underlying61 rfl hi
    generalize sd seed 256 = S256 at *
    obtain ⟨tf, htf⟩ : ∃ tf : Nat → Nat, (fun i => sd seed (i + 1)) = tf := ⟨_, rfl⟩
    rw [htf] at hblk hld hi
    have htl : ∀ i, i < 256 → tf i < 4294967296 := fun i h => by rw [← htf]; exact sd_lt seed hs (i + 1)
    have hgetT : ∀ i, i < 256 → (arrOf tf 256)[i]? = some (.int .u32 (tf i : Nat)) := fun i h => by rw [arrOf_get _ _ _ h, if_pos h]
    have hsum := sum_ok (arrOf tf 256) tf (.slice A l.length c) l wr (arrOf_size _ _) hgetT htl (HV.out.below hbel) (by omega)
    have hgetc : ∀ i, i < 256 → wr.cell? ⟨w1.heap.size, i, none⟩ = some (.int .u32 (tf i : Nat)) := fun i h => by rw [cell_block hblk, hgetT i h]
    have hrd := (HV.out.below hbel)
    obtain ⟨_, _, e, _, hrl, _⟩ := hrd
    injection e with e1 e2 e3
    subst e1 e3
    have hTs := arrOf_size tf 256
    generalize arrOf tf 256 = T at *
    have HH := Lib.hid (And.intro hsum (And.intro hgetc (And.intro htl (And.intro hrl (And.intro hld (And.intro hbel hTs)))))); clear hsum hgetc htl hrl hld hbel hblk hgetT hTs hi htf
    go_wp2_with fail
    go_loop [7, 8] (fun vs vi => ∃ k : Nat, k ≤ l.length ∧ vi = .int .i64 k ∧ vs = .int .u32 ((l.take k).foldl (eatT tf) 4294967295 : Nat)) (fun _ vi => l.length - (intOf vi).toNat)
    case atStart => exact ⟨0, by omega, rfl, by simp⟩
    obtain ⟨k, hk, rfl, rfl⟩ := hrel
    have hlt32 := foldT_lt HH.out.2.2.1 (l.take k) (s := 4294967295) (by decide)
    by_cases hlt : k < l.length
    · have d : decide ((k : Int) < l.length) = true := decide_eq_true (by omega)
      obtain ⟨ad, rfl, hcell⟩ := HH.out.2.2.2.1.at_ (i := k) (by rw [bv_length]; exact hlt)
      have hcv : (bv l)[k]'(by rw [bv_length]; exact hlt) = .int .u8 l[k].toNat := by simp [bv]
      rw [hcv] at hcell
      have hc8 := l[k].toNat_lt
      have hnext : (l.take (k + 1)).foldl (eatT tf) 4294967295 = tf (((l.take k).foldl (eatT tf) 4294967295 ^^^ l[k].toNat) % 256) ^^^ (l.take k).foldl (eatT tf) 4294967295 / 256 := by
        rw [List.take_succ_eq_append_getElem hlt, List.foldl_append]; rfl
      generalize (l.take k).foldl (eatT tf) 4294967295 = s at *
      generalize l[k].toNat = C at *
      have hxm : (s ^^^ C) % 256 = (s % 256) ^^^ C := by
        have := Nat.xor_mod_two_pow (a := s) (b := C) (n := 8)
        rw [show (2 : Nat) ^ 8 = 256 from rfl, Nat.mod_eq_of_lt (show C < 256 by omega)] at this
        exact this
      rw [hxm] at hnext
      have hx8 := Nat.xor_lt_two_pow (n := 8) (x := s % 256) (y := C) (by omega) (by omega)
      have hxv : bits .xor .u8 ((s : Int) % 256) (C : Int) = ((s % 256 ^^^ C : Nat) : Int) := u8_xor_nat (s % 256) C (by omega) (by omega)
      generalize s % 256 ^^^ C = I at *
      have htc := HH.out.2.1 I (by omega)
      have htb := HH.out.2.2.1 I (by omega)
      have hxw : bits .xor .u32 ((tf I : Nat) : Int) ((s : Int) / 256) = ((tf I ^^^ s / 256 : Nat) : Int) := u32_xor_nat (tf I) (s / 256) htb (by omega)
      generalize tf I = TI at *
      have HN := Lib.hid hnext; clear hnext
      go_wp2
      exact ⟨⟨k + 1, by omega, by simp, by rw [HN.out]⟩, by simp [intOf]; omega⟩
    · have hkl : k = l.length := by omega
      subst hkl
      rw [List.take_length] at *
      have d : decide ((l.length : Int) < l.length) = false := decide_eq_false (by omega)
      have hlat : (Instr.loadAt 61 (.pointer (some ⟨w1.heap.size, 0, none⟩))).run Try.prog wr = .ok (.agg T) wr := by
        simp only [Instr.loadAt, Instr.sureAddr, Sem.run_bind, Sem.run_pure, Result.andThen]
        exact HH.out.2.2.2.2.1
      go_wp2_with fail
      unfold Oper.wp
      simp only [execOp, Sem.run_bind]
      erw [hlat]
      simp only [Result.andThen, Sem.run_pure]
      rw [Oper.upon_value]
      go_step
      go_wp2_with (go_at_call 39; refine HH.out.1.mono ?_; rintro e w5 ⟨rfl, hb5⟩; have HB := Lib.hid (below_up HH.out.2.2.2.2.2.1 hb5); clear hb5)
      go_ret
      refine ⟨ret_bool ?_, HB.out⟩
      rw [beq_iff_eq]
      omega
end Go.Proofs.Ytjikndfpkhgnkaa.Crc
