/- The walks over cmp.isNaN[int], cmp.Compare[int]. -/
import Derived.Test.YtdomngpkahgoiaaSt1
import Derived.Laws.BytesArg
import Derived.Deep.Slices
namespace Go.Proofs.Ytdomngpkahgoiaa.St
open Go.RowKit
set_option linter.unusedVariables false
def cmpI (a b : Int) : Int := if a < b then -1 else if b < a then 1 else 0
theorem cmpI_neg (a b : Int) : decide (cmpI a b < 0) = decide (a < b) := by
  unfold cmpI
  rcases (by omega : a < b ∨ (¬ a < b ∧ b < a) ∨ (¬ a < b ∧ ¬ b < a)) with h | ⟨h, h2⟩ | ⟨h, h2⟩
  · rw [if_pos h]; simp [h]
  · rw [if_neg h, if_pos h2]; simp [h]
  · rw [if_neg h, if_neg h2]; simp [h]
theorem nan_ok (n : Int) (w : World) : Calls Try.prog 77 #[.int .i64 n] w fun e w' => e = .returned (.bool false) ∧ w = w' := by
  go_enter Try.func77, Try.ntmps77
  go_wp2
  go_ret
  exact ⟨ret_bool (by simp), rfl⟩
set_option maxHeartbeats 1000000 in
theorem cmpi_ok (a b : Int) (w : World) : Calls Try.prog 53 #[.int .i64 a, .int .i64 b] w fun e w' => e = .returned (.int .i64 (cmpI a b)) ∧ w = w' := by
  unfold cmpI
  have ha := fun W => nan_ok a W
  have hb := fun W => nan_ok b W
  have HN := Lib.hid (And.intro ha hb); clear ha hb
  rcases (by omega : a < b ∨ (¬ a < b ∧ b < a) ∨ (¬ a < b ∧ ¬ b < a)) with h | ⟨h, h2⟩ | ⟨h, h2⟩
  · rw [if_pos h]
    have d1 : decide (a < b) = true := decide_eq_true h
    go_enter Try.func53, Try.ntmps53
    go_wp2_with fail
    (with_reducible refine (HN.out.1 _).mono ?_); rintro e w1 ⟨rfl, rfl⟩
    go_wp2_with fail
    (with_reducible refine (HN.out.2 _).mono ?_); rintro e w1 ⟨rfl, rfl⟩
    go_wp2
    go_ret
    exact ⟨rfl, rfl⟩
  · rw [if_neg h, if_pos h2]
    have d1 : decide (a < b) = false := decide_eq_false h
    have d2 : decide (b < a) = true := decide_eq_true h2
    go_enter Try.func53, Try.ntmps53
    go_wp2_with fail
    (with_reducible refine (HN.out.1 _).mono ?_); rintro e w1 ⟨rfl, rfl⟩
    go_wp2_with fail
    (with_reducible refine (HN.out.2 _).mono ?_); rintro e w1 ⟨rfl, rfl⟩
    go_wp2
    go_ret
    exact ⟨rfl, rfl⟩
  · rw [if_neg h, if_neg h2]
    have d1 : decide (a < b) = false := decide_eq_false h
    have d2 : decide (b < a) = false := decide_eq_false h2
    go_enter Try.func53, Try.ntmps53
    go_wp2_with fail
    (with_reducible refine (HN.out.1 _).mono ?_); rintro e w1 ⟨rfl, rfl⟩
    go_wp2_with fail
    (with_reducible refine (HN.out.2 _).mono ?_); rintro e w1 ⟨rfl, rfl⟩
    go_wp2
    go_ret
    exact ⟨rfl, rfl⟩
end Go.Proofs.Ytdomngpkahgoiaa.St
