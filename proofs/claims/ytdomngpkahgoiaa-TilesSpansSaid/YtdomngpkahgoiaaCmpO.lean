/- The walks over cmp.Compare[uint64], cmp.Compare[string], cmp.Or[int]; strings' order. -/
import Derived.Test.YtdomngpkahgoiaaCmpI
import Derived.Test.YtdomngpkahgoiaaIv
import Derived.Test.YtdomngpkahgoiaaArr
namespace Go.Proofs.Ytdomngpkahgoiaa.St
open Go.RowKit
set_option linter.unusedVariables false
set_option linter.unusedSimpArgs false
theorem nanu_ok (n : Int) (w : World) : Calls Try.prog 76 #[.int .u64 n] w fun e w' => e = .returned (.bool false) ∧ w = w' := by
  go_enter Try.func76, Try.ntmps76
  go_wp2
  go_ret
  exact ⟨ret_bool (by simp), rfl⟩
set_option maxHeartbeats 1000000 in
theorem cmpu_ok (A B : Nat) (w : World) : Calls Try.prog 52 #[.int .u64 (A : Nat), .int .u64 (B : Nat)] w fun e w' => e = .returned (.int .i64 (cmpI (A : Int) (B : Int))) ∧ w = w' := by
  unfold cmpI
  have ha := fun W => nanu_ok (A : Int) W
  have hb := fun W => nanu_ok (B : Int) W
  have HN := Lib.hid (And.intro ha hb); clear ha hb
  rcases (by omega : A < B ∨ (¬ A < B ∧ B < A) ∨ (¬ A < B ∧ ¬ B < A)) with h | ⟨h, h2⟩ | ⟨h, h2⟩
  · rw [if_pos (by omega)]
    have d1 : decide (A < B) = true := decide_eq_true h
    go_enter Try.func52, Try.ntmps52
    go_wp2_with fail
    (with_reducible refine (HN.out.1 _).mono ?_); rintro e w1 ⟨rfl, rfl⟩
    go_wp2_with fail
    (with_reducible refine (HN.out.2 _).mono ?_); rintro e w1 ⟨rfl, rfl⟩
    go_wp2
    go_ret
    exact ⟨rfl, rfl⟩
  · rw [if_neg (by omega), if_pos (by omega)]
    have d1 : decide (A < B) = false := decide_eq_false h
    have d2 : decide (B < A) = true := decide_eq_true h2
    go_enter Try.func52, Try.ntmps52
    go_wp2_with fail
    (with_reducible refine (HN.out.1 _).mono ?_); rintro e w1 ⟨rfl, rfl⟩
    go_wp2_with fail
    (with_reducible refine (HN.out.2 _).mono ?_); rintro e w1 ⟨rfl, rfl⟩
    go_wp2
    go_ret
    exact ⟨rfl, rfl⟩
  · rw [if_neg (by omega), if_neg (by omega)]
    have d1 : decide (A < B) = false := decide_eq_false h
    have d2 : decide (B < A) = false := decide_eq_false h2
    go_enter Try.func52, Try.ntmps52
    go_wp2_with fail
    (with_reducible refine (HN.out.1 _).mono ?_); rintro e w1 ⟨rfl, rfl⟩
    go_wp2_with fail
    (with_reducible refine (HN.out.2 _).mono ?_); rintro e w1 ⟨rfl, rfl⟩
    go_wp2
    go_ret
    exact ⟨rfl, rfl⟩
/-- The first that is not zero. -/
def orL : List Int → Int
  | [] => 0
  | a :: l => if a ≠ 0 then a else orL l
theorem orL_zero : ∀ (l : List Int), (∀ x ∈ l, x = 0) → orL l = 0
  | [], _ => rfl
  | a :: l, h => by
    unfold orL
    rw [if_neg (by simp [h a (List.mem_cons_self)])]
    exact orL_zero l (fun x hx => h x (List.mem_cons_of_mem _ hx))
theorem orL_at : ∀ (l : List Int) (k : Nat) (hk : k < l.length), (∀ x ∈ l.take k, x = 0) → l[k] ≠ 0 → orL l = l[k]
  | a :: l, 0, _, _, h => by
    have h' : a ≠ 0 := h
    show (if a ≠ 0 then a else orL l) = a
    rw [if_pos h']
  | a :: l, k + 1, hk, hz, h => by
    rw [List.take_succ_cons] at hz
    unfold orL
    rw [if_neg (by simp [hz a (List.mem_cons_self)])]
    exact orL_at l k (by simpa using hk) (fun x hx => hz x (List.mem_cons_of_mem _ hx)) h
set_option maxHeartbeats 1000000 in
theorem or_ok (v : Value) (l : List Int) (w : World) (hv : IRd w v l) (hl : l.length ≤ 100) : Calls Try.prog 51 #[v] w fun e w' => e = .returned (.int .i64 (orL l)) ∧ w = w' := by
  have HV := Lib.hid hv
  obtain ⟨A, c, rfl, _, _⟩ := hv
  obtain ⟨R, hR⟩ : ∃ r, orL l = r := ⟨_, rfl⟩
  rw [hR]
  have HR := Lib.hid hR; clear hR
  go_enter Try.func51, Try.ntmps51
  go_wp2_with fail
  go_loop [8] (fun vi => ∃ k : Nat, k ≤ l.length ∧ vi = .int .i64 k ∧ ∀ x ∈ l.take k, x = 0) (fun vi => l.length - (intOf vi).toNat)
  case atStart => exact ⟨0, by omega, rfl, by simp⟩
  case round =>
  obtain ⟨k, hk, rfl, hz⟩ := hrel
  have HZ := Lib.hid hz; clear hz
  by_cases hlt : k < l.length
  · have dk : decide ((k : Int) < l.length) = true := decide_eq_true (by omega)
    obtain ⟨ad, rfl, hcell⟩ := HV.out.get hlt
    have hat := orL_at l k hlt HZ.out
    have hst : l.take (k + 1) = l.take k ++ [l[k]] := List.take_succ_eq_append_getElem hlt
    have bk : (k : Int) < l.length := by omega
    generalize l[k] = z at *
    have HA := Lib.hid (And.intro hat hst); clear hat hst
    by_cases h0 : z = 0
    · subst h0
      go_wp2
      exact ⟨⟨k + 1, by omega, by simp, fun x hx => by
        rw [HA.out.2, List.mem_append, List.mem_singleton] at hx
        rcases hx with h | h
        · exact HZ.out x h
        · exact h⟩, by simp [intOf]; omega⟩
    · have e1 : (z != 0) = true := by rw [bne_iff_ne]; exact h0
      obtain rfl : z = R := by rw [← HR.out]; exact (HA.out.1 h0).symm
      clear h0
      go_wp2
      go_ret
      exact ⟨rfl, rfl⟩
  · obtain rfl : k = l.length := by omega
    have dk : decide ((l.length : Int) < l.length) = false := decide_eq_false (by omega)
    obtain rfl : R = 0 := by rw [← HR.out]; exact orL_zero l (by have := HZ.out; rwa [List.take_length] at this)
    go_wp2
    go_ret
    exact ⟨rfl, rfl⟩

end Go.Proofs.Ytdomngpkahgoiaa.St
