/- The walks over point.Size, croftlaw07.alive, croftref07.May, croftref07.Point. -/
import Derived.Test.YtkjapmafipnmpaaPt2
import Derived.Test.YtkjapmafipnmpaaRef01
import Derived.Deep.DeepCutAuto
namespace Go.Proofs.Ytkjapmafipnmpaa.Pt
open Go.RowKit Lt
set_option linter.unusedVariables false
set_option linter.unusedSimpArgs false
theorem size_ok (p : PtS) (w : World) (h : p.d.size ≤ 140737488351232) : Calls Try.prog 30 #[pv p] w fun e w' => e = .returned (.int .i64 (13 + (p.d.size : Int))) ∧ Below w.heap.size w w' := by
  obtain ⟨id, x, y, d⟩ := p
  simp only at h ⊢
  go_enter Try.func30, Try.ntmps30
  go_wp2
  go_ret
  exact ⟨rfl, below_alloc1 _ _⟩
theorem alive_ok (w : World) : Calls Try.prog 24 #[] w fun e w' => e = .returned (.bool true) ∧ Below w.heap.size w w' := by
  go_enter Try.func24, Try.ntmps24
  go_wp2_with (first
    | (go_at_call 30; refine (size_ok PtS.zero _ (by decide)).mono ?_; rintro e w1 ⟨rfl, hb1⟩)
    | (go_at_call 28; refine (chkp_ok PtS.zero _).mono ?_; rintro e w2 ⟨rfl, hb2⟩))
  go_ret
  exact ⟨ret_bool (by decide +kernel), below_up hb1 hb2⟩
theorem may_ok (p : PtS) (w : World) : Calls Try.prog 72 #[pv p] w fun e w' => e = .returned (.bool (decide (p.chk = 0))) ∧ Below w.heap.size w w' := by
  unfold PtS.chk
  obtain ⟨id, x, y, d⟩ := p
  simp only
  by_cases h1 : id < 1
  · have e : decide ((if id < 1 ∨ 2147483647 < id then (4 : Int) else if 16 < d.size then 5 else 0) = 0) = false := by rw [if_pos (.inl h1)]; rfl
    rw [e]
    go_enter Try.func72, Try.ntmps72
    go_wp2
    go_ret
    exact ⟨ret_bool (by simp; try omega), below_alloc1 _ _⟩
  · by_cases h2 : 2147483647 < id
    · have e : decide ((if id < 1 ∨ 2147483647 < id then (4 : Int) else if 16 < d.size then 5 else 0) = 0) = false := by rw [if_pos (.inr h2)]; rfl
      rw [e]
      go_enter Try.func72, Try.ntmps72
      go_wp2
      go_ret
      exact ⟨ret_bool (by simp; try omega), below_alloc1 _ _⟩
    · by_cases h3 : 16 < d.size
      · have e : decide ((if id < 1 ∨ 2147483647 < id then (4 : Int) else if 16 < d.size then 5 else 0) = 0) = false := by rw [if_neg (by omega), if_pos h3]; rfl
        rw [e]
        go_enter Try.func72, Try.ntmps72
        go_wp2
        go_ret
        exact ⟨ret_bool (by simp; try omega), below_alloc1 _ _⟩
      · have e : decide ((if id < 1 ∨ 2147483647 < id then (4 : Int) else if 16 < d.size then 5 else 0) = 0) = true := by rw [if_neg (by omega), if_neg h3]; rfl
        rw [e]
        go_enter Try.func72, Try.ntmps72
        go_wp2
        go_ret
        exact ⟨ret_bool (by simp; try omega), below_alloc1 _ _⟩
/-- The octets of a point that may be. -/
def ptB (p : PtS) : List UInt8 := numB 4 p.id.toNat ++ numB 4 p.x ++ numB 4 p.y ++ [UInt8.ofNat (p.d.size % 256)] ++ p.d.data.toList
end Go.Proofs.Ytkjapmafipnmpaa.Pt
