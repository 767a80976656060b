/- The walks over croftlaw37.number, outline.Point, croftlaw37.point. -/
import Derived.Test.YtjhhknkhgilecaaN2
namespace Go.Proofs.Ytjhhknkhgilecaa.Ou
open Go.RowKit Lt
set_option linter.unusedVariables false
set_option linter.unusedSimpArgs false
set_option maxHeartbeats 4000000 in
set_option maxRecDepth 100000 in
theorem refnumber_ok (n : Int) (w : World) (hn : -9223372036854775808 ≤ n ∧ n ≤ 9223372036854775807) :
    Calls Try.prog 18 #[.int .i64 n] w fun e w' => e = .returned (.string (bstr (dec n))) ∧ Below w.heap.size w w' := by
  obtain ⟨U, hU⟩ : ∃ u, n.natAbs = u := ⟨_, rfl⟩
  have hdg := digits_ok 19 U w (Nat.lt_of_lt_of_le (by omega : U < 18446744073709551616) (by decide)) (by omega)
  have hlU := dgs_20 (n := U) (by omega)
  have hsz := bstr_size (dgs U)
  obtain ⟨sA, hsA⟩ : ∃ s, bstr (dgs U) = s := ⟨_, rfl⟩
  rw [hsA] at hsz hdg
  by_cases h : n < 0
  · have hS : bstr (dec n) = ByteArray.mk #[45] ++ sA := by
      unfold dec
      rw [if_pos h, hU, show (45 :: dgs U) = [45] ++ dgs U from rfl, bstr_append, hsA]; rfl
    rw [hS]
    have z1 : ¬ 9223372036854775807 < 1 + sA.size := by omega
    have z2 : ¬ 9223372036854775807 < (ByteArray.mk #[45]).size + sA.size := by show ¬ _ < 1 + sA.size; omega
    rw [show (U : Int) = -(n + 1) + 1 from by omega] at hdg
    have HD := Lib.hid (And.intro hdg hU); clear hdg hsz hlU hS hsA
    go_enter Try.func18, Try.ntmps18
    go_wp2_with fail
    (with_reducible refine HD.out.1.mono ?_); rintro e w1 ⟨rfl, hb⟩
    have H1 := Lib.hid hb; clear hb
    go_wp2
    go_ret
    exact ⟨rfl, H1.out⟩
  · have hS : bstr (dec n) = sA := by
      unfold dec
      rw [if_neg h, hU, hsA]
    rw [hS]
    rw [show (U : Int) = n from by omega] at hdg
    have HD := Lib.hid (And.intro hdg hU); clear hdg hsz hlU hS hsA
    go_enter Try.func18, Try.ntmps18
    go_wp2_with fail
    (with_reducible refine HD.out.1.mono ?_); rintro e w1 ⟨rfl, hb⟩
    have H1 := Lib.hid hb; clear hb
    go_wp2
    go_ret
    exact ⟨rfl, H1.out⟩
end Go.Proofs.Ytjhhknkhgilecaa.Ou
