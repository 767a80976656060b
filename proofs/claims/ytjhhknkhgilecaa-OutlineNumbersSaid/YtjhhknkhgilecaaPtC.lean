/- The walk over point.Check. -/
import Derived.Test.YtjhhknkhgilecaaPtD
namespace Go.Proofs.Ytjhhknkhgilecaa.Pt
open Go.RowKit
set_option linter.unusedVariables false
set_option linter.unusedSimpArgs false
theorem chkp_ok (p : PtS) (w : World) : Calls Try.prog 86 #[pv p] w fun e w' => e = .returned (.int .i64 p.chk) ∧ Below w.heap.size w w' := by
  unfold PtS.chk
  obtain ⟨id, x, y, d⟩ := p
  simp only
  by_cases h1 : id < 1
  · rw [if_pos (.inl h1)]
    go_enter Try.func86, Try.ntmps86
    go_wp2
    go_ret
    exact ⟨rfl, below_alloc1 _ _⟩
  · by_cases h2 : 2147483647 < id
    · rw [if_pos (.inr h2)]
      go_enter Try.func86, Try.ntmps86
      go_wp2
      go_ret
      exact ⟨rfl, below_alloc1 _ _⟩
    · rw [if_neg (fun h => h.elim h1 h2)]
      by_cases h3 : 16 < d.size
      · rw [if_pos h3]
        go_enter Try.func86, Try.ntmps86
        go_wp2
        go_ret
        exact ⟨rfl, below_alloc1 _ _⟩
      · rw [if_neg h3]
        go_enter Try.func86, Try.ntmps86
        go_wp2
        go_ret
        exact ⟨rfl, below_alloc1 _ _⟩
theorem chk_zero {p : PtS} (h : p.chk = 0) : 1 ≤ p.id ∧ p.id ≤ 2147483647 ∧ p.d.size ≤ 16 := by
  unfold PtS.chk at h
  by_cases h1 : p.id < 1 ∨ 2147483647 < p.id
  · rw [if_pos h1] at h; cases h
  · rw [if_neg h1] at h
    by_cases h2 : 16 < p.d.size
    · rw [if_pos h2] at h; cases h
    · omega
end Go.Proofs.Ytjhhknkhgilecaa.Pt
