/- Heaps in memory; the walk over (*heap.Heap).Len. -/
import Derived.Test.YtkjapmafipnmpaaH2
import Derived.Laws.OwnMore
namespace Go.Proofs.Ytkjapmafipnmpaa.Hp
open Go.RowKit Lt
set_option linter.unusedVariables false
set_option linter.unusedSimpArgs false
/-- A Heap at p whose row, of its own from base on, has these items. -/
def HAt (W : World) (base p : Nat) (v : Value) (l : List ItS) : Prop := W.heap[p]? = some (.cells #[v] 27 (0, 0)) ∧ W.ownsRow base 33 4 v l.length (l.flatMap ItS.cells)
theorem HAt.up {W W' : World} {base p : Nat} {v : Value} {l : List ItS} (h : HAt W base p v l) (hb : Below W.heap.size W W') : HAt W' base p v l := ⟨block_up h.1 hb, own_below h.2 hb⟩
theorem cells1 {W : World} {g : Nat} {a : Value} {t : TypeId} {f : Nat × Nat} (h : W.heap[g]? = some (.cells #[a] t f)) : W.cell? ⟨g, 0, none⟩ = some a := by rw [cell_block h]; rfl
theorem len_nil (w : World) : Calls Try.prog 19 #[.pointer none] w fun e w' => e = .returned (.int .i64 0) ∧ w = w' := by
  go_enter Try.func19, Try.ntmps19
  go_wp2
  go_ret
  exact ⟨rfl, rfl⟩
theorem len_ok {W : World} {base p : Nat} {v : Value} {l : List ItS} (h : HAt W base p v l) : Calls Try.prog 19 #[.pointer (some ⟨p, 0, none⟩)] W fun e w' => e = .returned (.int .i64 (l.length : Nat)) ∧ W = w' := by
  have HH := Lib.hid h
  obtain ⟨A, c, rfl, _⟩ := own_rd h.2
  have q0 := cells1 h.1
  clear h
  go_enter Try.func19, Try.ntmps19
  go_wp2
  go_ret
  exact ⟨rfl, rfl⟩
end Go.Proofs.Ytkjapmafipnmpaa.Hp
