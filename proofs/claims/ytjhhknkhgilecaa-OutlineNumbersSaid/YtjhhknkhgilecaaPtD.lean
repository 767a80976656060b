/- Points as data, for seats that lack package point's functions (the same words as Pt's head: import one of the two). -/
import Derived.Test.YtjhhknkhgilecaaMem
namespace Go.Proofs.Ytjhhknkhgilecaa.Pt
open Go.RowKit
set_option linter.unusedVariables false
set_option linter.unusedSimpArgs false
structure PtS where
  id : Int
  x : Nat
  y : Nat
  d : ByteArray
deriving Inhabited
namespace PtS
def cells (p : PtS) : List Value := [.int .i64 p.id, .int .u32 (p.x : Nat), .int .u32 (p.y : Nat), .string p.d]
def fine (p : PtS) : Prop := (-9223372036854775808 ≤ p.id ∧ p.id ≤ 9223372036854775807) ∧ p.x < 4294967296 ∧ p.y < 4294967296 ∧ p.d.size ≤ 140737488351232
theorem cells_len (p : PtS) : p.cells.length = 4 := rfl
theorem cells_one (p : PtS) : ∀ u ∈ p.cells, u.oneCell' = true := by simp [cells, Value.oneCell']
def zero : PtS := ⟨0, 0, 0, ⟨#[]⟩⟩
/-- What point.Check says. -/
def chk (p : PtS) : Int := if p.id < 1 ∨ 2147483647 < p.id then 4 else if 16 < p.d.size then 5 else 0
end PtS
/-- The struct's value. -/
abbrev pv (p : PtS) : Value := .agg #[.int .i64 p.id, .int .u32 (p.x : Nat), .int .u32 (p.y : Nat), .string p.d]
end Go.Proofs.Ytjhhknkhgilecaa.Pt
