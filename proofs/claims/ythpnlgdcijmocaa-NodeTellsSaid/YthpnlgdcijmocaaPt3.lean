/- The walks over point.Size, croftlaw07.alive, croftref07.May, croftref07.Point. -/
import Derived.Test.YthpnlgdcijmocaaPt2
import Derived.Test.YthpnlgdcijmocaaRef01
import Derived.Deep.DeepCutAuto
namespace Go.Proofs.Ythpnlgdcijmocaa.Pt
open Go.RowKit Lt
set_option linter.unusedVariables false
set_option linter.unusedSimpArgs false
theorem may_ok (p : PtS) (w : World) : Calls Try.prog 61 #[pv p] w fun e w' => e = .returned (.bool (decide (p.chk = 0))) ∧ Below w.heap.size w w' := by
  unfold PtS.chk
  obtain ⟨id, x, y, d⟩ := p
  simp only
  by_cases h1 : id < 1
  · have e : decide ((if id < 1 ∨ 2147483647 < id then (4 : Int) else if 16 < d.size then 5 else 0) = 0) = false := by rw [if_pos (.inl h1)]; rfl
    rw [e]
    go_enter Try.func61, Try.ntmps61
    go_wp2
    go_ret
    exact ⟨ret_bool (by simp; try omega), below_alloc1 _ _⟩
  · by_cases h2 : 2147483647 < id
    · have e : decide ((if id < 1 ∨ 2147483647 < id then (4 : Int) else if 16 < d.size then 5 else 0) = 0) = false := by rw [if_pos (.inr h2)]; rfl
      rw [e]
      go_enter Try.func61, Try.ntmps61
      go_wp2
      go_ret
      exact ⟨ret_bool (by simp; try omega), below_alloc1 _ _⟩
    · by_cases h3 : 16 < d.size
      · have e : decide ((if id < 1 ∨ 2147483647 < id then (4 : Int) else if 16 < d.size then 5 else 0) = 0) = false := by rw [if_neg (by omega), if_pos h3]; rfl
        rw [e]
        go_enter Try.func61, Try.ntmps61
        go_wp2
        go_ret
        exact ⟨ret_bool (by simp; try omega), below_alloc1 _ _⟩
      · have e : decide ((if id < 1 ∨ 2147483647 < id then (4 : Int) else if 16 < d.size then 5 else 0) = 0) = true := by rw [if_neg (by omega), if_neg h3]; rfl
        rw [e]
        go_enter Try.func61, Try.ntmps61
        go_wp2
        go_ret
        exact ⟨ret_bool (by simp; try omega), below_alloc1 _ _⟩
/-- The octets of a point that may be. -/
def ptB (p : PtS) : List UInt8 := numB 4 p.id.toNat ++ numB 4 p.x ++ numB 4 p.y ++ [UInt8.ofNat (p.d.size % 256)] ++ p.d.data.toList
end Go.Proofs.Ythpnlgdcijmocaa.Pt
