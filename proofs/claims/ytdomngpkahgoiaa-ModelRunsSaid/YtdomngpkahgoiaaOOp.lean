/- Calls on a model that are arguments. -/
import Derived.Test.YtdomngpkahgoiaaOPt
import Derived.Test.YtdomngpkahgoiaaMd6
namespace Go.Proofs.Ytdomngpkahgoiaa
open Go.RowKit Pt Md
set_option linter.unusedVariables false
theorem op_opens : OpensAs Try.prog 58 OpS.cells (fun _ e => (-9223372036854775808 ≤ e.kind ∧ e.kind ≤ 9223372036854775807) ∧ e.p.fine) := fun encH w fuel cs x h hw => by
  obtain ⟨k, k1, k2⟩ := fld_int Try.underlying58 h 0 _ rfl Try.underlying3 (by kernel_rfl)
  obtain ⟨n, y, h1, h2⟩ := fld_cells Try.underlying58 h (i := 1) rfl
  have h1 : DataW.trod encH Try.prog w 0 (fun _ => true) true n 56 ((cs.drop 1).take (Try.prog.cellsOf 56)) = some y := h1
  rw [show Try.prog.cellsOf 56 = 4 from by kernel_rfl] at h1
  have hl : cs.length = 5 := (struct_len Try.underlying58 h).trans (by kernel_rfl)
  obtain ⟨p, e, hp⟩ := pt_opens encH w n _ y h1 (fun m hm => hw m (h2 m hm))
  refine ⟨⟨k, p⟩, ?_, bounds_i64 k2, hp⟩
  have e2 : (cs.drop 1).take 4 = cs.drop 1 := List.take_of_length_le (by rw [List.length_drop]; omega)
  rw [e2] at e
  cases cs with
  | nil => simp at hl
  | cons a t =>
    have k3 : a = .int .i64 k := Option.some.inj k1
    have e3 : t = p.cells := e
    rw [k3, e3]
    rfl
end Go.Proofs.Ytdomngpkahgoiaa
