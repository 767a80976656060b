/- The walks over package croftref01: Num, Get, Cat. -/
import Derived.Test.YtjhhknkhgilecaaLittle4
namespace Go.Proofs.Ytjhhknkhgilecaa.Lt
open Go.RowKit
set_option linter.unusedVariables false
set_option linter.unusedSimpArgs false

theorem bv_int (y : Int) (h0 : 0 ≤ y) (h1 : y < 256) : ∃ c : UInt8, [Value.int .u8 y] = bv [c] := by
  refine ⟨UInt8.ofNat y.toNat, ?_⟩
  have : (UInt8.ofNat y.toNat).toNat = y.toNat := by simp; omega
  simp [bv, this]; omega
set_option maxHeartbeats 1000000 in
theorem refnum_pos (N size : Nat) (w : World) (hN : N ≤ 9223372036854775807) (hs : size ≤ 1000000) :
    Calls Try.prog 49 #[.int .i64 N, .int .i64 size] w fun e w' => ∃ v, e = .returned v ∧ Below w.heap.size w w' ∧ w'.ownsRow w.heap.size 5 1 v size (bv (numB size N)) := by
  go_enter Try.func49, Try.ntmps49
  go_wp2_with fail
  go_loopw [5, 0, 6] (fun vb vn vi W => ∃ k : Nat, k ≤ size ∧ vi = .int .i64 k ∧ vn = .int .i64 (N / 256 ^ k : Nat) ∧ W.ownsRow w.heap.size 5 1 vb k (bv (numB k N)) ∧ Below w.heap.size w W) (fun _ _ vi _ => size - (intOf vi).toNat)
  case atStart => exact ⟨0, by omega, rfl, by simp, ⟨rfl, .inl ⟨rfl, rfl⟩⟩, Below.refl _ _⟩
  obtain ⟨k, hk, rfl, rfl, hown, hbel⟩ := hrel
  obtain ⟨A0, c0, rfl, hc0, _, _, _⟩ := own_rd hown
  have hsz := hbel.size
  have hM0 : N / 256 ^ k ≤ N := Nat.div_le_self _ _
  generalize hNk : N / 256 ^ k = M at *
  have hM1 : M ≤ 9223372036854775807 := by omega
  have hO := Lib.hid (And.intro hNk (And.intro hown hbel)); clear hown hbel hNk
  by_cases hlt : k < size
  · have d3 : decide ((k : Int) < size) = true := decide_eq_true (by omega)
    go_wp2_with (at_builtin; refine wpList_app rfl _ _ 24 rfl w.heap.size 5 (.int .u8 0) 1 1 Try.underlying24 info_u8 rfl (by decide) (by decide) (.slice A0 k c0) k (bv (numB k N)) rfl (some ⟨wr.heap.size, 0, none⟩) 1 1 (bv [UInt8.ofNat (M % 256)]) rfl ?_ rfl ?_ (bv_one _) (by omega) ?_ ?_)
    · exact own_move hO.out.2.1 (fun b hb => ((Below.refl wr.heap.size wr).alloc (Nat.le_refl _) _).block b (own_lt hO.out.2.1 b hb))
    · exact rd_new _ _ _ _ (by rw [bv_of])
    · simp; omega
    intro A1 c1 w1 hown hgrow hat
    rw [← bv_append, ← hO.out.1, ← numB_succ] at hown
    have hbel : Below w.heap.size w w1 := (hO.out.2.2.alloc hsz _).trans
      ⟨hgrow.os, hgrow.tape, hgrow.output, hgrow.size, fun i hi => hgrow.block i (by simp; omega) (fun e => by have := own_base hO.out.2.1 i e.symm; omega)⟩
    have hM : (M : Int) / 256 = (N / 256 ^ (k + 1) : Nat) := by
      rw [← hO.out.1, Nat.pow_succ, ← Nat.div_div_eq_div_mul]; simp
    have hN := Lib.hid (And.intro hown (And.intro hbel hM)); clear hown hgrow hat hbel hM
    go_wp2
    exact ⟨⟨k + 1, by omega, by simp, by rw [← hN.out.2.2], hN.out.1, hN.out.2.1⟩, by simp [intOf]; omega⟩
  · have hkS : k = size := by omega
    subst hkS
    have d3 : decide ((k : Int) < k) = false := decide_eq_false (by omega)
    go_wp2
    go_ret
    exact ⟨_, rfl, hO.out.2.2, hO.out.2.1⟩
set_option maxHeartbeats 1000000 in
theorem refnum_neg (n : Int) (size : Nat) (w : World) (hn : n < 0) (hN : -9223372036854775808 ≤ n) (hs : size ≤ 1000000) :
    Calls Try.prog 49 #[.int .i64 n, .int .i64 size] w fun e w' => ∃ v l, e = .returned v ∧ l.length = size ∧ Below w.heap.size w w' ∧ w'.ownsRow w.heap.size 5 1 v size (bv l) := by
  go_enter Try.func49, Try.ntmps49
  go_wp2_with fail
  go_loopw [5, 0, 6] (fun vb vn vi W => ∃ (k : Nat) (m : Int) (l : List UInt8), k ≤ size ∧ vi = .int .i64 k ∧ vn = .int .i64 m ∧ -9223372036854775808 ≤ m ∧ m ≤ 0 ∧ l.length = k ∧ W.ownsRow w.heap.size 5 1 vb k (bv l) ∧ Below w.heap.size w W) (fun _ _ vi _ => size - (intOf vi).toNat)
  case atStart => exact ⟨0, n, [], by omega, rfl, rfl, hN, by omega, rfl, ⟨rfl, .inl ⟨rfl, rfl⟩⟩, Below.refl _ _⟩
  obtain ⟨k, m, l, hk, rfl, rfl, m1, m2, hlk, hown, hbel⟩ := hrel
  obtain ⟨A0, c0, rfl, hc0, _, _, _⟩ := own_rd hown
  have hsz := hbel.size
  have hO := Lib.hid (And.intro hlk (And.intro hown hbel)); clear hown hbel hlk
  by_cases hlt : k < size
  · have d3 : decide ((k : Int) < size) = true := decide_eq_true (by omega)
    obtain ⟨c, hc⟩ := bv_int (m.tmod 256 % 256) (Int.emod_nonneg _ (by omega)) (Int.emod_lt_of_pos _ (by omega))
    have HC := Lib.hid hc; clear hc
    go_wp2_with (at_builtin; refine wpList_app rfl _ _ 24 rfl w.heap.size 5 (.int .u8 0) 1 1 Try.underlying24 info_u8 rfl (by decide) (by decide) (.slice A0 k c0) k (bv l) rfl (some ⟨wr.heap.size, 0, none⟩) 1 1 (bv [c]) rfl ?_ rfl ?_ (bv_one _) (by omega) ?_ ?_)
    · exact own_move hO.out.2.1 (fun b hb => ((Below.refl wr.heap.size wr).alloc (Nat.le_refl _) _).block b (own_lt hO.out.2.1 b hb))
    · exact rd_new _ _ _ _ HC.out
    · simp; omega
    intro A1 c1 w1 hown hgrow hat
    rw [← bv_append] at hown
    have hbel : Below w.heap.size w w1 := (hO.out.2.2.alloc hsz _).trans
      ⟨hgrow.os, hgrow.tape, hgrow.output, hgrow.size, fun i hi => hgrow.block i (by simp; omega) (fun e => by have := own_base hO.out.2.1 i e.symm; omega)⟩
    have hN := Lib.hid (And.intro hown hbel); clear hown hgrow hat hbel
    have hq1 : -9223372036854775808 ≤ m.tdiv 256 ∧ m.tdiv 256 ≤ 0 := by
      obtain ⟨M, rfl⟩ : ∃ M : Nat, m = -(M : Int) := ⟨m.natAbs, by omega⟩
      rw [Int.neg_tdiv, Int.tdiv_eq_ediv_of_nonneg (by omega)]
      omega
    have HQ := Lib.hid hq1; clear hq1
    go_wp2
    exact ⟨⟨k + 1, m.tdiv 256, l ++ [c], by omega, by simp, rfl, HQ.out.1, HQ.out.2, by rw [List.length_append, hO.out.1]; rfl, hN.out.1, hN.out.2⟩, by simp [intOf]; omega⟩
  · have hkS : k = size := by omega
    subst hkS
    have d3 : decide ((k : Int) < k) = false := decide_eq_false (by omega)
    go_wp2
    go_ret
    exact ⟨_, l, rfl, hO.out.1, hO.out.2.2, hO.out.2.1⟩
set_option maxHeartbeats 1000000 in
theorem refget_ok (v : Value) (l : List UInt8) (w : World) (hv : BRd w v l) (hl : l.length ≤ 7) :
    Calls Try.prog 57 #[v] w fun e w' => e = .returned (.int .i64 (getB l)) ∧ w' = w := by
  obtain ⟨A, c, rfl, hlc, hr, hA⟩ := hv
  have HR := Lib.hid (And.intro hr hA); clear hr hA
  go_enter Try.func57, Try.ntmps57
  go_wp2_with fail
  go_loop [3, 4] (fun vn vi => ∃ k : Nat, k ≤ l.length ∧ vi = .int .i64 ((k : Int) - 1) ∧ vn = .int .i64 (getB (l.drop k))) (fun _ vi => (intOf vi + 1).toNat)
  case atStart => exact ⟨l.length, by omega, rfl, by simp [getB]⟩
  rename_i vn vi hrel
  obtain ⟨k, hk, rfl, rfl⟩ := hrel
  by_cases h0 : k = 0
  · subst h0
    have hd : l.drop 0 = l := rfl
    rw [hd]
    go_wp2
    go_ret
    exact ⟨rfl, rfl⟩
  · obtain ⟨j, rfl⟩ : ∃ j, k = j + 1 := ⟨k - 1, by omega⟩
    have e1 : (((j + 1 : Nat) : Int) - 1) = (j : Int) := by omega
    rw [e1]
    have d : decide ((0 : Int) ≤ j) = true := decide_eq_true (by omega)
    obtain ⟨ad, rfl, hcell⟩ := HR.out.1.at_ (i := j) (by rw [bv_length]; omega)
    have hjl : j < l.length := by omega
    have hcv : (bv l)[j]'(by rw [bv_length]; exact hjl) = .int .u8 l[j].toNat := by simp [bv]
    rw [hcv] at hcell
    have hc8 := l[j].toNat_lt
    have hnext : getB (l.drop j) = l[j].toNat + 256 * getB (l.drop (j + 1)) := by
      rw [List.drop_eq_getElem_cons hjl]; rfl
    have hN := getB_lt (l.drop (j + 1))
    have hN2 : 256 ^ (l.drop (j + 1)).length ≤ 256 ^ 6 := Nat.pow_le_pow_right (by omega) (by rw [List.length_drop]; omega)
    have h5 : (256 ^ 6 : Nat) = 281474976710656 := by decide
    have hN3 : getB (l.drop (j + 1)) < 281474976710656 := by omega
    clear hN hN2 h5
    generalize getB (l.drop (j + 1)) = N at *
    generalize l[j].toNat = C at *
    have HN := Lib.hid hnext; clear hnext
    go_wp2
    exact ⟨⟨j, by omega, rfl, by rw [HN.out]; congr 1; simp; omega⟩, by simp [intOf]⟩
theorem cat_ok (u v : Value) (a b : List UInt8) (w : World) (hu : BRd w u a) (hv : BRd w v b) (hl : a.length + b.length ≤ 140737488355328) :
    Calls Try.prog 48 #[u, v] w fun e w' => ∃ x, e = .returned x ∧ Below w.heap.size w w' ∧ w'.ownsRow w.heap.size 5 1 x (a.length + b.length) (bv (a ++ b)) := by
  obtain ⟨A, c, rfl, hlc, hr, hA⟩ := hu
  obtain ⟨B, d, rfl, hld, hrb, hB⟩ := hv
  have HR := Lib.hid (And.intro hr hrb); clear hr hA hrb hB
  go_enter Try.func48, Try.ntmps48
  go_wp2_with (at_builtin; refine wpList_app rfl _ _ 24 rfl w.heap.size 5 (.int .u8 0) 1 1 Try.underlying24 info_u8 rfl (by decide) (by decide) (.slice (some ⟨w.heap.size, 0, none⟩) 0 0) 0 [] rfl A a.length c (bv a) rfl ?_ (by rw [bv_length, Nat.mul_one]) ?_ (bv_one _) (by omega) ?_ ?_)
  · exact own_zero w _ _
  · exact HR.out.1.below (below_alloc1 _ _)
  · simp
  intro A1 c1 w1 hown hgrow hat
  have hbel := below_grown (below_alloc1 w (.cells #[] 5)) hgrow (fun k hk => by simp [Value.ownBlock] at hk; omega)
  have h1sz := hbel.size
  have hN := Lib.hid (And.intro hbel hown); clear hown hgrow hat hbel
  go_wp2_with (at_builtin; refine wpList_app rfl _ _ 24 rfl w.heap.size 5 (.int .u8 0) 1 1 Try.underlying24 info_u8 rfl (by decide) (by decide) (.slice A1 a.length c1) a.length (bv a) rfl B b.length d (bv b) rfl ?_ (by rw [bv_length, Nat.mul_one]) ?_ (bv_one _) (by omega) ?_ ?_)
  · exact hN.out.2
  · exact HR.out.2.below hN.out.1
  · exact h1sz
  intro A2 c2 w2 hown hgrow hat
  have hbel := below_grown hN.out.1 hgrow (fun k hk => own_base hN.out.2 k hk)
  rw [← bv_append] at hown
  have hM := Lib.hid (And.intro hbel hown); clear hown hgrow hat hbel
  go_wp2
  go_ret
  exact ⟨_, rfl, hM.out.1, hM.out.2⟩
end Go.Proofs.Ytjhhknkhgilecaa.Lt
