/- Items as data, and their order; the walk over croftlaw21.less. -/
import Derived.Test.YtkjapmafipnmpaaLio2
import Derived.Test.YtkjapmafipnmpaaSl
namespace Go.Proofs.Ytkjapmafipnmpaa.Hp
open Go.RowKit Lt
set_option linter.unusedVariables false
set_option linter.unusedSimpArgs false
structure ItS where
  hi : Nat
  lo : Nat
  od : Int
  id : Int
deriving DecidableEq, Inhabited
namespace ItS
def cells (x : ItS) : List Value := [.int .u64 (x.hi : Nat), .int .u64 (x.lo : Nat), .int .i64 x.od, .int .i64 x.id]
def fine (x : ItS) : Prop := x.hi < 18446744073709551616 ∧ x.lo < 18446744073709551616 ∧ (-9223372036854775808 ≤ x.od ∧ x.od ≤ 9223372036854775807) ∧ (-9223372036854775808 ≤ x.id ∧ x.id ≤ 9223372036854775807)
theorem cells_len (x : ItS) : x.cells.length = 4 := rfl
/-- Is one ahead? -/
def Lt (a b : ItS) : Prop := a.hi < b.hi ∨ (a.hi = b.hi ∧ (a.lo < b.lo ∨ (a.lo = b.lo ∧ (a.od < b.od ∨ (a.od = b.od ∧ a.id < b.id)))))
instance (a b : ItS) : Decidable (Lt a b) := by unfold Lt; infer_instance
theorem Lt.irr (a : ItS) : ¬ Lt a a := by unfold Lt; omega
theorem Lt.trans {a b c : ItS} (h1 : Lt a b) (h2 : Lt b c) : Lt a c := by unfold Lt at *; omega
theorem Lt.tri (a b : ItS) : Lt a b ∨ a = b ∨ Lt b a := by
  obtain ⟨a1, a2, a3, a4⟩ := a
  obtain ⟨b1, b2, b3, b4⟩ := b
  unfold Lt
  simp only [ItS.mk.injEq]
  omega
theorem Lt.le_trans {a b c : ItS} (h1 : ¬ Lt b a) (h2 : ¬ Lt c b) : ¬ Lt c a := by unfold Lt at *; omega
end ItS
/-- The item's value. -/
abbrev iv4 (x : ItS) : Value := .agg #[.int .u64 (x.hi : Nat), .int .u64 (x.lo : Nat), .int .i64 x.od, .int .i64 x.id]
theorem neqD (a b c d : Nat) (w : World) : (binOp .neq 31 (.agg #[.int .u64 (a : Nat), .int .u64 (b : Nat)]) (.agg #[.int .u64 (c : Nat), .int .u64 (d : Nat)])).run Try.prog w = .ok (.bool (!(((a : Int) == (c : Int)) && ((b : Int) == (d : Int))))) w := by
  refine neq_of (eqs_of Try.underlying31 (by kernel_rfl) ?_)
  refine eqf_cons (by rfl) (by go_simp; rfl) (by go_simp; rfl) (by go_simp) ?_
  exact eqf_last (by rfl) (by go_simp; rfl) (by go_simp; rfl) (by go_simp)
theorem neqD_t {a b c d : Nat} (h : ¬ (a = c ∧ b = d)) (w : World) : (binOp .neq 31 (.agg #[.int .u64 (a : Nat), .int .u64 (b : Nat)]) (.agg #[.int .u64 (c : Nat), .int .u64 (d : Nat)])).run Try.prog w = .ok (.bool true) w := by
  have e : (((a : Int) == (c : Int)) && ((b : Int) == (d : Int))) = false := by rw [Bool.and_eq_false_iff, beq_eq_false_iff_ne, beq_eq_false_iff_ne]; omega
  rw [neqD, e]; rfl
theorem neqD_f (a b : Nat) (w : World) : (binOp .neq 31 (.agg #[.int .u64 (a : Nat), .int .u64 (b : Nat)]) (.agg #[.int .u64 (a : Nat), .int .u64 (b : Nat)])).run Try.prog w = .ok (.bool false) w := by rw [neqD]; simp
set_option maxHeartbeats 4000000 in
set_option maxRecDepth 100000 in
theorem less_ok (x y : ItS) (w : World) : Calls Try.prog 17 #[iv4 x, iv4 y] w fun e w' => e = .returned (.bool (decide (ItS.Lt x y))) ∧ Below w.heap.size w w' := by
  obtain ⟨R, hR⟩ : ∃ r, decide (ItS.Lt x y) = r := ⟨_, rfl⟩
  rw [hR]
  have ht : ItS.Lt x y → R = true := fun h => by rw [← hR]; exact decide_eq_true h
  have hf : ¬ ItS.Lt x y → R = false := fun h => by rw [← hR]; exact decide_eq_false h
  unfold ItS.Lt at ht hf
  obtain ⟨a, b, c, d⟩ := x
  obtain ⟨a', b', c', d'⟩ := y
  simp only at ht hf
  have hb := Lib.hid (below_alloc (below_alloc1 w (.cells #[.int .u64 (a : Nat), .int .u64 (b : Nat), .int .i64 c, .int .i64 d] 33)) (.cells #[.int .u64 (a' : Nat), .int .u64 (b' : Nat), .int .i64 c', .int .i64 d'] 33))
  clear hR
  by_cases h : a = a' ∧ b = b'
  · obtain ⟨rfl, rfl⟩ := h
    have hn := neqD_f a b
    rcases (by omega : c < c' ∨ (¬ c < c' ∧ ¬ c = c') ∨ (¬ c < c' ∧ c = c' ∧ d < d') ∨ (¬ c < c' ∧ c = c' ∧ ¬ d < d')) with h | ⟨h, h1⟩ | ⟨h, h1, h2⟩ | ⟨h, h1, h2⟩
    · obtain rfl := ht (by omega)
      have d1 : decide (c < c') = true := decide_eq_true (by omega)
      clear ht hf
      go_enter Try.func17, Try.ntmps17
      go_wp2
      go_ret
      exact ⟨ret_bool (by first | rfl | simp), hb.out⟩
    · obtain rfl := hf (by omega)
      have d1 : decide (c < c') = false := decide_eq_false (by omega)
      have e1 : (c == c') = false := by rw [beq_eq_false_iff_ne]; omega
      clear ht hf
      go_enter Try.func17, Try.ntmps17
      go_wp2
      go_ret
      exact ⟨ret_bool (by first | rfl | simp), hb.out⟩
    · subst h1
      obtain rfl := ht (by omega)
      have d1 : decide (c < c) = false := decide_eq_false (by omega)
      have e1 : (c == c) = true := by rw [beq_iff_eq]
      have d2 : decide (d < d') = true := decide_eq_true (by omega)
      clear ht hf
      go_enter Try.func17, Try.ntmps17
      go_wp2
      go_ret
      exact ⟨ret_bool (by first | rfl | simp), hb.out⟩
    · subst h1
      obtain rfl := hf (by omega)
      have d1 : decide (c < c) = false := decide_eq_false (by omega)
      have e1 : (c == c) = true := by rw [beq_iff_eq]
      have d2 : decide (d < d') = false := decide_eq_false (by omega)
      clear ht hf
      go_enter Try.func17, Try.ntmps17
      go_wp2
      go_ret
      exact ⟨ret_bool (by first | rfl | simp), hb.out⟩
  · have hn := neqD_t h
    rcases (by omega : a < a' ∨ (¬ a < a' ∧ ¬ a = a') ∨ (¬ a < a' ∧ a = a' ∧ b < b') ∨ (¬ a < a' ∧ a = a' ∧ ¬ b < b')) with h3 | ⟨h3, h1⟩ | ⟨h3, h1, h2⟩ | ⟨h3, h1, h2⟩
    · obtain rfl := ht (by omega)
      have d1 : decide (((a : Nat) : Int) < (a' : Nat)) = true := decide_eq_true (by omega)
      have d3 : decide (a < a') = true := decide_eq_true (by omega)
      clear ht hf
      go_enter Try.func17, Try.ntmps17
      go_wp2
      go_ret
      exact ⟨ret_bool (by first | rfl | simp), hb.out⟩
    · obtain rfl := hf (by omega)
      have d1 : decide (((a : Nat) : Int) < (a' : Nat)) = false := decide_eq_false (by omega)
      have d3 : decide (a < a') = false := decide_eq_false (by omega)
      have e1 : (((a : Nat) : Int) == (a' : Nat)) = false := by rw [beq_eq_false_iff_ne]; omega
      have e2 : (a == a') = false := by rw [beq_eq_false_iff_ne]; omega
      clear ht hf
      go_enter Try.func17, Try.ntmps17
      go_wp2
      go_ret
      exact ⟨ret_bool (by first | rfl | simp), hb.out⟩
    · subst h1
      obtain rfl := ht (by omega)
      have d1 : decide (((a : Nat) : Int) < (a : Nat)) = false := decide_eq_false (by omega)
      have d3 : decide (a < a) = false := decide_eq_false (by omega)
      have e1 : (((a : Nat) : Int) == (a : Nat)) = true := by rw [beq_iff_eq]
      have e2 : (a == a) = true := by rw [beq_iff_eq]
      have d2 : decide (((b : Nat) : Int) < (b' : Nat)) = true := decide_eq_true (by omega)
      have d4 : decide (b < b') = true := decide_eq_true (by omega)
      clear ht hf
      go_enter Try.func17, Try.ntmps17
      go_wp2
      go_ret
      exact ⟨ret_bool (by first | rfl | simp), hb.out⟩
    · subst h1
      obtain rfl := hf (by omega)
      have d1 : decide (((a : Nat) : Int) < (a : Nat)) = false := decide_eq_false (by omega)
      have d3 : decide (a < a) = false := decide_eq_false (by omega)
      have e1 : (((a : Nat) : Int) == (a : Nat)) = true := by rw [beq_iff_eq]
      have e2 : (a == a) = true := by rw [beq_iff_eq]
      have d2 : decide (((b : Nat) : Int) < (b' : Nat)) = false := decide_eq_false (by omega)
      have d4 : decide (b < b') = false := decide_eq_false (by omega)
      clear ht hf
      go_enter Try.func17, Try.ntmps17
      go_wp2
      go_ret
      exact ⟨ret_bool (by first | rfl | simp), hb.out⟩
end Go.Proofs.Ytkjapmafipnmpaa.Hp
