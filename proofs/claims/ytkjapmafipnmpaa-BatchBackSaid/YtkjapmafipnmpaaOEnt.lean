/- Entries and summaries that are arguments. -/
import Derived.Test.YtkjapmafipnmpaaOpen3
import Derived.Test.YtkjapmafipnmpaaEnt
namespace Go.Proofs.Ytkjapmafipnmpaa
open Go.RowKit
set_option linter.unusedVariables false
theorem ent_opens : OpensAs Try.prog 76 EntS.cells (fun _ e => e.fine) := fun encH w fuel cs x h hw => by
  obtain ⟨k, k1, k2⟩ := fld_int Try.underlying76 h 0 _ rfl Try.underlying3 (by kernel_rfl)
  obtain ⟨i, i1, i2⟩ := fld_int Try.underlying76 h 1 _ rfl Try.underlying3 (by kernel_rfl)
  have hl : cs.length = 2 := (struct_len Try.underlying76 h).trans (by kernel_rfl)
  exact ⟨⟨k, i⟩, list2 hl k1 i1, bounds_i64 k2, bounds_i64 i2⟩
/-- A summary as its cells stand, and what they read. -/
structure SumV where
  next : Int
  last : Bool
  v : Value
  l : List EntS
def SumV.cells (s : SumV) : List Value := [.int .i64 s.next, .bool s.last, s.v]
def SumV.fine (w : World) (s : SumV) : Prop := (-9223372036854775808 ≤ s.next ∧ s.next ≤ 9223372036854775807) ∧ ERd w s.v s.l ∧ (∀ e ∈ s.l, e.fine) ∧ s.l.length ≤ 8796093022207
theorem sum_opens : OpensAs Try.prog 73 SumV.cells SumV.fine := fun encH w fuel cs x h hw => by
  obtain ⟨k, k1, k2⟩ := fld_int Try.underlying73 h 0 _ rfl Try.underlying3 (by kernel_rfl)
  obtain ⟨b, b1⟩ := fld_bool Try.underlying73 h 1 _ rfl Try.underlying4 (by kernel_rfl)
  obtain ⟨v, l, v1, v2, v3, v4⟩ := fld_slice ent_opens Try.underlying73 h hw 2 _ rfl Try.underlying71 (by kernel_rfl) (by kernel_rfl : _ = 2) (by decide) EntS.cells_len
  have hl : cs.length = 3 := (struct_len Try.underlying73 h).trans (by kernel_rfl)
  have hby : Try.prog.bytesOf 76 = 16 := by kernel_rfl
  rw [hby] at v4
  have hr : reachBytes = 140737488351232 := by decide
  exact ⟨⟨k, b, v, l⟩, list3 hl k1 b1 v1, bounds_i64 k2, v2, v3, by show l.length ≤ _; omega⟩
end Go.Proofs.Ytkjapmafipnmpaa
