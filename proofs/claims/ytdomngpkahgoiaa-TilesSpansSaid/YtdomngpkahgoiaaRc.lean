/- Windows, plainly. -/
import Derived.Test.YtdomngpkahgoiaaBase
namespace Go.Proofs.Ytdomngpkahgoiaa.Ti
open Go.RowKit
set_option linter.unusedVariables false
set_option linter.unusedSimpArgs false
structure RcS where
  x0 : Nat
  y0 : Nat
  x1 : Nat
  y1 : Nat
deriving Inhabited, DecidableEq
namespace RcS
def fine (r : RcS) : Prop := r.x0 < 4294967296 ∧ r.y0 < 4294967296 ∧ r.x1 < 4294967296 ∧ r.y1 < 4294967296
def emp (r : RcS) : Bool := decide (r.x1 < r.x0) || decide (r.y1 < r.y0)
def both (a b : RcS) : RcS := ⟨max a.x0 b.x0, max a.y0 b.y0, min a.x1 b.x1, min a.y1 b.y1⟩
def cutR (a b : RcS) : RcS := if a.emp || b.emp || (both a b).emp then ⟨1, 1, 0, 0⟩ else both a b
def meets (a b : RcS) : Bool := !(cutR a b).emp
def within (a b : RcS) : Bool := a.emp || decide (cutR a b = a)
def In (r : RcS) (u v : Nat) : Prop := r.x0 ≤ u ∧ u ≤ r.x1 ∧ r.y0 ≤ v ∧ v ≤ r.y1
theorem emp_iff (r : RcS) : r.emp = true ↔ r.x1 < r.x0 ∨ r.y1 < r.y0 := by unfold emp; rw [Bool.or_eq_true, decide_eq_true_iff, decide_eq_true_iff]
theorem emp_both (a b : RcS) : (both a b).emp = true ↔ min a.x1 b.x1 < max a.x0 b.x0 ∨ min a.y1 b.y1 < max a.y0 b.y0 := emp_iff _
theorem meets_iff (a b : RcS) : meets a b = true ↔ (a.x0 ≤ a.x1 ∧ a.y0 ≤ a.y1 ∧ b.x0 ≤ b.x1 ∧ b.y0 ≤ b.y1) ∧ (a.x0 ≤ b.x1 ∧ b.x0 ≤ a.x1 ∧ a.y0 ≤ b.y1 ∧ b.y0 ≤ a.y1) := by
  unfold meets cutR
  by_cases h : (a.emp || b.emp || (both a b).emp) = true
  · rw [if_pos h]
    rw [Bool.or_eq_true, Bool.or_eq_true, emp_iff, emp_iff, emp_both] at h
    constructor
    · intro h2; exact absurd h2 (by decide)
    · intro h2; omega
  · rw [if_neg h]
    rw [Bool.or_eq_true, Bool.or_eq_true, emp_iff, emp_iff, emp_both] at h
    constructor
    · intro _; omega
    · intro _
      rw [Bool.not_eq_true', Bool.eq_false_iff, Ne, emp_both]; omega
theorem within_iff (a b : RcS) (h : a.emp = false) : within a b = true ↔ b.x0 ≤ a.x0 ∧ a.x1 ≤ b.x1 ∧ b.y0 ≤ a.y0 ∧ a.y1 ≤ b.y1 := by
  unfold within cutR
  rw [h, Bool.false_or, decide_eq_true_iff, Bool.false_or]
  have h2 : ¬ (a.x1 < a.x0 ∨ a.y1 < a.y0) := by rw [← emp_iff, h]; decide
  by_cases hc : (b.emp || (both a b).emp) = true
  · rw [if_pos hc]
    rw [Bool.or_eq_true, emp_iff, emp_both] at hc
    obtain ⟨a0, a1, a2, a3⟩ := a
    obtain ⟨b0, b1, b2, b3⟩ := b
    simp only [RcS.mk.injEq] at hc h2 ⊢
    omega
  · rw [if_neg hc]
    rw [Bool.or_eq_true, emp_iff, emp_both] at hc
    obtain ⟨a0, a1, a2, a3⟩ := a
    obtain ⟨b0, b1, b2, b3⟩ := b
    simp only [both, RcS.mk.injEq] at hc h2 ⊢
    omega
end RcS
abbrev rcv (r : RcS) : Value := .agg #[.int .u32 (r.x0 : Nat), .int .u32 (r.y0 : Nat), .int .u32 (r.x1 : Nat), .int .u32 (r.y1 : Nat)]
/-- Has a window that place? -/
def inR (r : RcS) (x y : Nat) : Bool := decide (r.x0 ≤ x ∧ x ≤ r.x1 ∧ r.y0 ≤ y ∧ y ≤ r.y1)
end Go.Proofs.Ytdomngpkahgoiaa.Ti
