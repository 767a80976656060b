/- The walks over package little's Out, further: numbers, texts, filling up, and all of it. -/
import Derived.Test.YtjhhknkhgilecaaLittle
import Derived.Deep.DeepCutAuto
namespace Go.Proofs.Ytjhhknkhgilecaa.Lt
open Go.RowKit
set_option linter.unusedVariables false
set_option linter.unusedSimpArgs false

/-- So many octets of a number, the lowest first. -/
def numB (k N : Nat) : List UInt8 := (List.range k).map fun i => UInt8.ofNat (N / 256 ^ i % 256)
theorem numB_length (k N : Nat) : (numB k N).length = k := by simp [numB]
theorem numB_succ (k N : Nat) : numB (k + 1) N = numB k N ++ [UInt8.ofNat (N / 256 ^ k % 256)] := by simp [numB, List.range_succ]
def sz (size : Int) : Nat := if size < 1 then 1 else if 6 < size then 6 else size.toNat
theorem sz_pos (size : Int) : 1 ≤ sz size := by unfold sz; (repeat' split) <;> omega
theorem sz_le (size : Int) : sz size ≤ 6 := by unfold sz; (repeat' split) <;> omega
namespace OutS
def num (s : OutS) (n size : Int) : OutS :=
  if s.made = false ∨ s.err ≠ 0 then s else if n < 0 ∨ (256 : Int) ^ sz size ≤ n then { s with err := 4 } else s.put (numB (sz size) n.toNat)
def pad (s : OutS) (size : Int) : OutS := if s.made = false ∨ size ≤ s.b.length then s else s.put (List.replicate (min (size - s.b.length).toNat 65537) 0)
end OutS

theorem num_nil (n size : Int) (w : World) : Calls Try.prog 62 #[.pointer none, .int .i64 n, .int .i64 size] w fun e w' => e = .returned (.tuple #[]) ∧ w' = w := by
  go_enter Try.func62, Try.ntmps62
  go_wp2
  refine bodyPost_ret (results_none rfl _ _ _) rfl ⟨rfl, rfl⟩
theorem num_idle (B p : Nat) (v : Value) (n size : Int) (s : OutS) (w : World) (h : OutAt B w p v s) (hi : s.made = false ∨ s.err ≠ 0) :
    Calls Try.prog 62 #[.pointer (some ⟨p, 0, none⟩), .int .i64 n, .int .i64 size] w fun e w' => e = .returned (.tuple #[]) ∧ w' = w := by
  obtain ⟨_, hp, _⟩ := h
  have h2 := cell_block hp 2
  have h3 := cell_block hp 3
  simp at h2 h3
  clear hp
  cases hm : s.made with
  | false =>
    rw [hm] at h2
    clear hm hi
    go_enter Try.func62, Try.ntmps62
    go_wp2
    refine bodyPost_ret (results_none rfl _ _ _) rfl ⟨rfl, rfl⟩
  | true =>
    rw [hm] at h2 hi
    have he : (s.err == 0) = false := by simpa using hi
    clear hm hi
    go_enter Try.func62, Try.ntmps62
    go_wp2
    refine bodyPost_ret (results_none rfl _ _ _) rfl ⟨rfl, rfl⟩

set_option maxHeartbeats 2000000 in
theorem num_fits (B p : Nat) (v : Value) (N : Nat) (size : Int) (s : OutS) (w : World) (h : OutAt B w p v s) (hm : s.made = true) (he : s.err = 0) (hN : N < 256 ^ sz size) (s1 : -9223372036854775808 ≤ size) (s2 : size ≤ 9223372036854775807) :
    Calls Try.prog 62 #[.pointer (some ⟨p, 0, none⟩), .int .i64 N, .int .i64 size] w fun e w' => e = .returned (.tuple #[]) ∧ OutTo B w p v (s.put (numB (sz size) N)) w' := by
  have h' := h
  obtain ⟨hB, hp, ho, r0, r1, r2⟩ := h
  rw [hm, he] at hp
  have h2 := cell_block hp 2
  have h3 := cell_block hp 3
  simp at h2 h3
  have H := Lib.hid h'; clear h' hp ho hm he
  have hS1 := sz_pos size
  have hS2 := sz_le size
  have hcase : size < 1 ∧ sz size = 1 ∨ 6 < size ∧ sz size = 6 ∨ size = (sz size : Nat) := by unfold sz; (repeat' split) <;> omega
  generalize sz size = S at *
  have HC := Lib.hid hcase; clear hcase
  have hq : N / 2 ^ (8 * S) = 0 := by
    rw [Nat.pow_mul]
    exact Nat.div_eq_of_lt hN
  have HN := Lib.hid hN; clear hN
  have HQ := Lib.hid hq; clear hq
  go_enter Try.func62, Try.ntmps62
  go_upto_region 1 with (fail)
  go_cut [2] (fun v2 wx => wx = w ∧ v2 = .int .i64 (S : Nat))
  case first =>
    rcases HC.out with ⟨c, rfl⟩ | ⟨c, rfl⟩ | rfl
    all_goals
      go_wp2
      go_meet
      case rel => exact ⟨rfl, rfl⟩
  case rest =>
    obtain ⟨hw, rfl⟩ := hcut
    replace hw := hw.symm; subst hw
    have d0 : decide ((N : Int) < 0) = false := decide_eq_false (by omega)
    have d1 : ((N : Int) / 2 ^ (8 * S) != 0) = false := by
      have h := HQ.out
      have : (N : Int) / 2 ^ (8 * S) = 0 := by exact_mod_cast h
      rw [this]; rfl
    go_wp2_with fail
    go_loopw [6, 1, 39] (fun vb vn vi W => ∃ k : Nat, k ≤ S ∧ vi = .int .i64 k ∧ vn = .int .i64 (N / 256 ^ k : Nat) ∧ W.ownsRow w.heap.size 5 1 vb k (bv (numB k N)) ∧ Below w.heap.size w W) (fun _ _ vi _ => S - (intOf vi).toNat)
    case atStart => exact ⟨0, by omega, rfl, by simp, ⟨rfl, .inl ⟨rfl, rfl⟩⟩, Below.refl _ _⟩
    rename_i vb vn vi wr hrel
    obtain ⟨k, hk, rfl, rfl, hown, hbel⟩ := hrel
    obtain ⟨A0, c0, rfl, hc0, _, _, _⟩ := own_rd hown
    have hsz := hbel.size
    generalize hNk : N / 256 ^ k = M at *
    have hO := Lib.hid (And.intro hNk (And.intro hown hbel)); clear hown hbel hNk
    by_cases hlt : k < S
    · have d3 : decide ((k : Int) < S) = true := decide_eq_true (by omega)
      go_wp2_with (at_builtin; refine wpList_app rfl _ _ 24 rfl w.heap.size 5 (.int .u8 0) 1 1 Try.underlying24 info_u8 rfl (by decide) (by decide) (.slice A0 k c0) k (bv (numB k N)) rfl (some ⟨wr.heap.size, 0, none⟩) 1 1 (bv [UInt8.ofNat (M % 256)]) rfl ?_ rfl ?_ (bv_one _) (by omega) ?_ ?_)
      · exact own_move hO.out.2.1 (fun b hb => ((Below.refl wr.heap.size wr).alloc (Nat.le_refl _) _).block b (own_lt hO.out.2.1 b hb))
      · exact rd_new _ _ _ _ (by rw [bv_of])
      · simp; omega
      intro A1 c1 w1 hown hgrow hat
      rw [← bv_append, ← hO.out.1, ← numB_succ] at hown
      have hbel : Below w.heap.size w w1 := (hO.out.2.2.alloc hsz _).trans
        ⟨hgrow.os, hgrow.tape, hgrow.output, hgrow.size, fun i hi => hgrow.block i (by simp; omega) (fun e => by have := own_base hO.out.2.1 i e.symm; omega)⟩
      have hM : (M : Int) / 256 = (N / 256 ^ (k + 1) : Nat) := by
        rw [← hO.out.1, Nat.pow_succ, ← Nat.div_div_eq_div_mul]; simp
      have hN := Lib.hid (And.intro hown (And.intro hbel hM)); clear hown hgrow hat hbel hM
      go_wp2
      exact ⟨⟨k + 1, by omega, by simp, by rw [← hN.out.2.2], hN.out.1, hN.out.2.1⟩, by simp [intOf]; omega⟩
    · have hkS : k = S := by omega
      subst hkS
      have d3 : decide ((k : Int) < k) = false := decide_eq_false (by omega)
      go_wp2_with fail
      refine (put_ok B p v _ (numB k N) s wr ?_ (brd_own hO.out.2.1) (by rw [numB_length]; omega)).mono ?_
      · obtain ⟨a1, a2, a3, a4⟩ := H.out
        exact ⟨a1, block_up a2 hO.out.2.2, own_below a3 hO.out.2.2, a4⟩
      rintro e w1 ⟨rfl, ht⟩
      have HT := Lib.hid (OutTo.before hO.out.2.2 ht); clear ht
      go_wp2
      go_end0
      exact ⟨rfl, HT.out⟩

set_option maxHeartbeats 1000000 in
theorem num_bad (B p : Nat) (v : Value) (n : Int) (size : Int) (s : OutS) (w : World) (h : OutAt B w p v s) (hm : s.made = true) (he : s.err = 0) (hbad : n < 0 ∨ (256 : Int) ^ sz size ≤ n) (n1 : -9223372036854775808 ≤ n) (n2 : n ≤ 9223372036854775807) (s1 : -9223372036854775808 ≤ size) (s2 : size ≤ 9223372036854775807) :
    Calls Try.prog 62 #[.pointer (some ⟨p, 0, none⟩), .int .i64 n, .int .i64 size] w fun e w' => e = .returned (.tuple #[]) ∧ OutTo B w p v { s with err := 4 } w' := by
  have h' := h
  obtain ⟨hB, hp, ho, r0, r1, r2⟩ := h
  rw [hm, he] at hp
  have h2 := cell_block hp 2
  have h3 := cell_block hp 3
  have f3 := free_block hp 3
  simp at h2 h3
  have fin : OutTo B w p v { s with err := 4 } (w.setCell ⟨p, 3, none⟩ (.int .i64 4)) :=
    OutTo.mk_set (s := s) (s' := { s with err := 4 }) ⟨hB, by rw [hm, he]; exact hp, ho, r0, r1, r2⟩ ⟨rfl, rfl, rfl, Nat.le_refl _, fun _ _ _ => rfl⟩ rfl ho (.inl rfl) rfl r2
  have FIN := Lib.hid fin; clear fin
  clear h' hp ho hm he
  have hS1 := sz_pos size
  have hS2 := sz_le size
  have hcase : size < 1 ∧ sz size = 1 ∨ 6 < size ∧ sz size = 6 ∨ size = (sz size : Nat) := by unfold sz; (repeat' split) <;> omega
  generalize sz size = S at *
  have HC := Lib.hid hcase; clear hcase
  have hq : 0 ≤ n → (n / 2 ^ (8 * S) != 0) = true := by
    intro h0
    have h1 : (256 : Int) ^ S ≤ n := by omega
    rw [Int.pow_mul]
    have h2 : (0 : Int) < 256 ^ S := Int.pow_pos (by omega)
    have h3 : 1 ≤ n / 256 ^ S := (Int.le_ediv_iff_mul_le h2).2 (by omega)
    have : n / (2 ^ 8) ^ S ≠ 0 := by
      rw [show (2 : Int) ^ 8 = 256 from rfl]; omega
    simpa using this
  have HQ := Lib.hid hq; clear hq hbad
  go_enter Try.func62, Try.ntmps62
  go_upto_region 1 with (fail)
  go_cut [2] (fun v2 wx => wx = w ∧ v2 = .int .i64 (S : Nat))
  case first =>
    rcases HC.out with ⟨c, rfl⟩ | ⟨c, rfl⟩ | rfl
    all_goals
      go_wp2
      go_meet
      case rel => exact ⟨rfl, rfl⟩
  case rest =>
    obtain ⟨hw, rfl⟩ := hcut
    replace hw := hw.symm; subst hw
    by_cases hn : n < 0
    · have d0 : decide (n < 0) = true := decide_eq_true hn
      go_wp2
      refine bodyPost_ret (results_none rfl _ _ _) rfl ⟨rfl, FIN.out⟩
    · have d0 : decide (n < 0) = false := decide_eq_false hn
      have d1 : (n / 2 ^ (8 * S) != 0) = true := HQ.out (by omega)
      go_wp2
      refine bodyPost_ret (results_none rfl _ _ _) rfl ⟨rfl, FIN.out⟩

theorem num_ok (B p : Nat) (v : Value) (n : Int) (size : Int) (s : OutS) (w : World) (h : OutAt B w p v s) (n1 : -9223372036854775808 ≤ n) (n2 : n ≤ 9223372036854775807) (s1 : -9223372036854775808 ≤ size) (s2 : size ≤ 9223372036854775807) :
    Calls Try.prog 62 #[.pointer (some ⟨p, 0, none⟩), .int .i64 n, .int .i64 size] w fun e w' => e = .returned (.tuple #[]) ∧ OutTo B w p v (s.num n size) w' := by
  unfold OutS.num
  by_cases hi : s.made = false ∨ s.err ≠ 0
  · rw [if_pos hi]
    exact (num_idle B p v n size s w h hi).mono fun e w' ⟨he, hw⟩ => by subst hw; exact ⟨he, OutTo.same h (Below.refl _ _)⟩
  · rw [if_neg hi]
    have hm : s.made = true := by
      cases hq : s.made
      · exact absurd (.inl hq) hi
      · rfl
    have he : s.err = 0 := by
      rcases Classical.em (s.err = 0) with h0 | h0
      · exact h0
      · exact absurd (.inr h0) hi
    by_cases hb : n < 0 ∨ (256 : Int) ^ sz size ≤ n
    · rw [if_pos hb]
      exact num_bad B p v n size s w h hm he hb n1 n2 s1 s2
    · rw [if_neg hb]
      have hN : n.toNat < 256 ^ sz size := by
        have h0 : ¬ n < 0 := fun h => hb (.inl h)
        have h1 : ¬ (256 : Int) ^ sz size ≤ n := fun h => hb (.inr h)
        have h2 : ((256 ^ sz size : Nat) : Int) = (256 : Int) ^ sz size := by simp
        omega
      have hn : ((n.toNat : Nat) : Int) = n := by
        have h0 : ¬ n < 0 := fun h => hb (.inl h)
        omega
      have := num_fits B p v n.toNat size s w h hm he hN s1 s2
      rw [hn] at this
      exact this

theorem text_nil (x : ByteArray) (w : World) : Calls Try.prog 93 #[.pointer none, .string x] w fun e w' => e = .returned (.tuple #[]) ∧ Below w.heap.size w w' := by
  have hc := Lib.run_convert_string_bytes (P := Try.prog) w 9 24 5 x Try.underlying9 Try.underlying24 Try.underlying5
  have hb := below_bytes w 5 x
  have hW : ∃ W, Lib.bytesWorld w 5 x = W := ⟨_, rfl⟩
  obtain ⟨W, hW⟩ := hW
  rw [hW] at hc hb
  have hN := Lib.hid (And.intro hb hW); clear hb hW
  go_enter Try.func93, Try.ntmps93
  go_wp2_with fail
  refine (put_nil _ _).mono ?_
  rintro e w1 ⟨rfl, rfl⟩
  go_wp2
  go_end0
  exact ⟨rfl, hN.out.1⟩
theorem text_ok (B p : Nat) (v : Value) (x : ByteArray) (s : OutS) (w : World) (h : OutAt B w p v s) (hx : x.size ≤ 140737488355328) :
    Calls Try.prog 93 #[.pointer (some ⟨p, 0, none⟩), .string x] w fun e w' => e = .returned (.tuple #[]) ∧ OutTo B w p v (s.put x.data.toList) w' := by
  have hc := Lib.run_convert_string_bytes (P := Try.prog) w 9 24 5 x Try.underlying9 Try.underlying24 Try.underlying5
  have hb := below_bytes w 5 x
  have hr := brd_bytes w 5 x
  have hW : ∃ W, Lib.bytesWorld w 5 x = W := ⟨_, rfl⟩
  obtain ⟨W, hW⟩ := hW
  rw [hW] at hc hb hr
  obtain ⟨a1, a2, a3, a4⟩ := h
  have hN := Lib.hid (And.intro hb (And.intro hr (show OutAt B W p v s from ⟨a1, block_up a2 hb, own_below a3 hb, a4⟩))); clear hb hW hr a2 a3
  go_enter Try.func93, Try.ntmps93
  go_wp2_with fail
  refine (put_ok B p v _ _ s W hN.out.2.2 hN.out.2.1 (by rw [Array.length_toList]; exact hx)).mono ?_
  rintro e w1 ⟨rfl, ht⟩
  have HT := Lib.hid (OutTo.before hN.out.1 ht); clear ht
  go_wp2
  go_end0
  exact ⟨rfl, HT.out⟩

theorem made_u8 (L : Nat) : (madeCells #[Value.int .u8 0] L).toList = bv (List.replicate L 0) := by
  have h : ∀ i, (#[Value.int .u8 0] : Array Value)[i % 1]! = .int .u8 0 := fun i => by rw [Nat.mod_one]; rfl
  simp only [madeCells, bv, List.map_replicate, Array.toList_map, Array.toList_range]
  refine List.ext_getElem (by simp) fun i h1 h2 => ?_
  simp only [List.getElem_map, List.getElem_replicate]
  exact h _
theorem pad_nil (size : Int) (w : World) : Calls Try.prog 94 #[.pointer none, .int .i64 size] w fun e w' => e = .returned (.tuple #[]) ∧ w' = w := by
  go_enter Try.func94, Try.ntmps94
  go_wp2
  refine bodyPost_ret (results_none rfl _ _ _) rfl ⟨rfl, rfl⟩
theorem pad_ok (B p : Nat) (v : Value) (size : Int) (s : OutS) (w : World) (h : OutAt B w p v s) (s1 : -9223372036854775808 ≤ size) (s2 : size ≤ 9223372036854775807) :
    Calls Try.prog 94 #[.pointer (some ⟨p, 0, none⟩), .int .i64 size] w fun e w' => e = .returned (.tuple #[]) ∧ OutTo B w p v (s.pad size) w' := by
  have hsame := OutTo.same h (Below.refl _ _)
  have h' := h
  obtain ⟨hB, hp, ho, r0, r1, r2⟩ := h
  obtain ⟨A0, c0, rfl, hc0, _, _, _⟩ := own_rd ho
  have h0 := cell_block hp 0
  have h2 := cell_block hp 2
  simp at h0 h2
  have hwb := own_lt ho
  have HH := Lib.hid (And.intro h' hsame); clear h' hp ho hsame
  cases hm : s.made with
  | false =>
    have hpd : s.pad size = s := by unfold OutS.pad; rw [if_pos (.inl hm)]
    rw [hm] at h2
    clear hm hwb
    go_enter Try.func94, Try.ntmps94
    go_wp2
    refine bodyPost_ret (results_none rfl _ _ _) rfl ⟨rfl, ?_⟩
    rw [hpd]; exact HH.out.2
  | true =>
    rw [hm] at h2
    by_cases hle : size ≤ s.b.length
    · have hpd : s.pad size = s := by unfold OutS.pad; rw [if_pos (.inr hle)]
      have d1 : decide (size ≤ (s.b.length : Int)) = true := decide_eq_true hle
      clear hm hwb
      go_enter Try.func94, Try.ntmps94
      go_wp2
      refine bodyPost_ret (results_none rfl _ _ _) rfl ⟨rfl, ?_⟩
      rw [hpd]; exact HH.out.2
    · have hpd : s.pad size = s.put (List.replicate (min (size - s.b.length).toNat 65537) 0) := by
        unfold OutS.pad; rw [if_neg (by rintro (h | h); · rw [hm] at h; cases h
                                        · exact hle h)]
      have d1 : decide (size ≤ (s.b.length : Int)) = false := decide_eq_false hle
      have HP := Lib.hid hpd; clear hpd hm hwb
      go_enter Try.func94, Try.ntmps94
      obtain ⟨L, hL⟩ : ∃ L : Nat, (min (size - s.b.length).toNat 65537) = L := ⟨_, rfl⟩
      have hL1 : L ≤ 65537 := by omega
      have hmin : (if size - (s.b.length : Int) ≤ 65537 then size - (s.b.length : Int) else 65537) = (L : Int) := by split <;> omega
      have hs9 : -9223372036854775808 ≤ size - (s.b.length : Int) := by omega
      have hs8 : size - (s.b.length : Int) ≤ 9223372036854775807 := by omega
      obtain ⟨iu, hi1, hi2, hi3, hi4⟩ := info_parts info_u8
      by_cases hc : size - (s.b.length : Int) ≤ 65537
      all_goals
        have HL := Lib.hid (And.intro hL hmin); clear hL hmin
        go_wp2_with (at_make; refine wpList_make_full w rfl _ _ 24 rfl w.heap.size 5 iu (.int .u8 0) 1 Try.underlying24 hi1 hi2 hi3 .i64 .i64 _ _ L rfl rfl ?_ ?_ (by rw [hi4]; omega) (by unfold maxLen; omega) (Nat.le_refl _) ?_)
        · have := HL.out.2; omega
        · have := HL.out.2; omega
        intro w1 hown hgrow
        have hbel : Below w.heap.size w w1 := ⟨hgrow.os, hgrow.tape, hgrow.output, hgrow.size, fun k hk => hgrow.block k hk (by simp)⟩
        have hrd : BRd w1 (.slice (some ⟨w.heap.size, 0, none⟩) L L) (List.replicate L 0) := by
          refine brd_own (base := w.heap.size) (e := 5) (n := L) ?_
          rw [made_u8] at hown
          exact hown
        have hat : OutAt B w1 p (.slice A0 s.b.length c0) s := by
          obtain ⟨a1, a2, a3, a4⟩ := HH.out.1
          exact ⟨a1, block_up a2 hbel, own_below a3 hbel, a4⟩
        have HB := Lib.hid (And.intro hbel (And.intro hrd hat)); clear hown hgrow hbel hrd hat
        go_wp2_with fail
        refine (put_ok B p _ _ _ s w1 HB.out.2.2 HB.out.2.1 (by rw [List.length_replicate]; omega)).mono ?_
        rintro e w2 ⟨rfl, ht⟩
        have HT := Lib.hid (OutTo.before HB.out.1 ht); clear ht
        go_wp2
        go_end0
        refine ⟨rfl, ?_⟩
        rw [HP.out, HL.out.1]
        exact HT.out
end Go.Proofs.Ytjhhknkhgilecaa.Lt
