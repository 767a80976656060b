/- Points as data; the walks over point.Check, point.Size, point.Put. -/
import Derived.Test.YtkjapmafipnmpaaLio2
import Derived.Test.YtkjapmafipnmpaaSl
import Derived.Test.YtkjapmafipnmpaaArr
namespace Go.Proofs.Ytkjapmafipnmpaa.Pt
open Go.RowKit Lt
set_option linter.unusedVariables false
set_option linter.unusedSimpArgs false
structure PtS where
  id : Int
  x : Nat
  y : Nat
  d : ByteArray
deriving Inhabited
namespace PtS
def cells (p : PtS) : List Value := [.int .i64 p.id, .int .u32 (p.x : Nat), .int .u32 (p.y : Nat), .string p.d]
def fine (p : PtS) : Prop := (-9223372036854775808 ≤ p.id ∧ p.id ≤ 9223372036854775807) ∧ p.x < 4294967296 ∧ p.y < 4294967296 ∧ p.d.size ≤ 140737488351232
theorem cells_len (p : PtS) : p.cells.length = 4 := rfl
theorem cells_one (p : PtS) : ∀ u ∈ p.cells, u.oneCell' = true := by simp [cells, Value.oneCell']
def zero : PtS := ⟨0, 0, 0, ⟨#[]⟩⟩
/-- What point.Check says. -/
def chk (p : PtS) : Int := if p.id < 1 ∨ 2147483647 < p.id then 4 else if 16 < p.d.size then 5 else 0
end PtS
/-- The struct's value. -/
abbrev pv (p : PtS) : Value := .agg #[.int .i64 p.id, .int .u32 (p.x : Nat), .int .u32 (p.y : Nat), .string p.d]
theorem chkp_ok (p : PtS) (w : World) : Calls Try.prog 28 #[pv p] w fun e w' => e = .returned (.int .i64 p.chk) ∧ Below w.heap.size w w' := by
  unfold PtS.chk
  obtain ⟨id, x, y, d⟩ := p
  simp only
  by_cases h1 : id < 1
  · rw [if_pos (.inl h1)]
    go_enter Try.func28, Try.ntmps28
    go_wp2
    go_ret
    exact ⟨rfl, below_alloc1 _ _⟩
  · by_cases h2 : 2147483647 < id
    · rw [if_pos (.inr h2)]
      go_enter Try.func28, Try.ntmps28
      go_wp2
      go_ret
      exact ⟨rfl, below_alloc1 _ _⟩
    · rw [if_neg (fun h => h.elim h1 h2)]
      by_cases h3 : 16 < d.size
      · rw [if_pos h3]
        go_enter Try.func28, Try.ntmps28
        go_wp2
        go_ret
        exact ⟨rfl, below_alloc1 _ _⟩
      · rw [if_neg h3]
        go_enter Try.func28, Try.ntmps28
        go_wp2
        go_ret
        exact ⟨rfl, below_alloc1 _ _⟩
/-- A point is written. -/
def putP (s : OutS) (p : PtS) : OutS := ((((s.num p.id 4).num (p.x : Nat) 4).num (p.y : Nat) 4).num (p.d.size : Nat) 1).put p.d.data.toList
set_option maxHeartbeats 2000000 in
theorem pput_ok {w0 W : World} {q : Nat} {s : OutS} (h : OW w0 W q s) (p : PtS) (hf : p.fine) :
    Calls Try.prog 26 #[.pointer (some ⟨q, 0, none⟩), pv p] W fun e w' => e = .returned (.tuple #[]) ∧ OW w0 w' q (putP s p) ∧ KeepO W w' := by
  obtain ⟨⟨f1, f2⟩, f3, f4, f5⟩ := hf
  obtain ⟨id, x, y, d⟩ := p
  simp only at f1 f2 f3 f4 f5
  show Calls _ _ _ _ fun e w' => e = _ ∧ OW w0 w' q (((((s.num id 4).num (x : Nat) 4).num (y : Nat) 4).num (d.size : Nat) 1).put d.data.toList) ∧ KeepO W w'
  have hO := h.up (below_alloc1 W (.cells #[.int .i64 id, .int .u32 (x : Nat), .int .u32 (y : Nat), .string d] 53))
  have hg := alloc_at (w := W) (.cells #[.int .i64 id, .int .u32 (x : Nat), .int .u32 (y : Nat), .string d] 53) rfl
  have hKK := KeepO.of_below (below_alloc1 W (.cells #[.int .i64 id, .int .u32 (x : Nat), .int .u32 (y : Nat), .string d] 53))
  clear h
  go_enter Try.func26, Try.ntmps26
  go_wp2_with (first
    | (go_at_call 66; refine (OW.num (w0 := w0) (by assumption) _ _ (by omega) (by omega) (by decide) (by decide)).mono ?_; rintro e w3 ⟨rfl, hO, hK⟩
       have hg := hK.2 _ _ _ _ hg (by decide) (by decide)
       obtain ⟨q0, q1, q2, q3⟩ := cells4 hg
       have hKK := hKK.trans hK
       clear hK)
    | (go_at_call 67; refine (OW.text (w0 := w0) (by assumption) d (by omega)).mono ?_; rintro e w3 ⟨rfl, hO, hK⟩
       have hKK := hKK.trans hK
       clear hK))
  go_end0
  exact ⟨rfl, hO, hKK⟩
end Go.Proofs.Ytkjapmafipnmpaa.Pt
