/- Items that are arguments; a struct's field that is a struct; slices of bools. -/
import Derived.Test.YtkjapmafipnmpaaOpen3
import Derived.Test.YtkjapmafipnmpaaH0
namespace Go.Proofs.Ytkjapmafipnmpaa
open Go.RowKit Hp
set_option linter.unusedVariables false
theorem fld_open {H : Type} {encH : TypeId × Value → H} {P : Program} {w : World} {α : Type} {enc : α → List Value} {fine : World → α → Prop} {t : TypeId} {fs : Array Field} {fuel : Nat} {cs : List Value} {x : DataW H × List MemPlace} (ht : P.underlying t = some (.struct fs))
    (h : DataW.trod encH P w 0 (fun _ => true) true fuel t cs = some x) (hw : ∀ m ∈ x.1.weights P t, m ≤ reachBytes) (i : Nat) (f : Field) (hf : fs[i]? = some f) (ho : OpensAs P f.type enc fine) : ∃ a, (cs.drop f.offset).take (P.cellsOf f.type) = enc a ∧ fine w a := by
  obtain ⟨n, y, h1, h2⟩ := fld_cells ht h hf
  exact ho encH w n _ y h1 (fun m hm => hw m (h2 m hm))
theorem bool_opens : OpensAs Try.prog 4 (fun b : Bool => [Value.bool b]) (fun _ _ => True) := fun encH w fuel cs x h hw => by
  obtain ⟨b, h2, _⟩ := DataW.trod_bool Try.underlying4 h
  exact ⟨b, h2, trivial⟩
def dcells (d : Nat × Nat) : List Value := [.int .u64 (d.1 : Nat), .int .u64 (d.2 : Nat)]
set_option maxRecDepth 100000 in
theorem dist_opens : OpensAs Try.prog 31 dcells (fun _ d => d.1 < 18446744073709551616 ∧ d.2 < 18446744073709551616) := fun encH w fuel cs x h hw => by
  obtain ⟨i, i1, i2⟩ := fld_int Try.underlying31 h 0 _ rfl Try.underlying29 (by kernel_rfl)
  obtain ⟨j, j1, j2⟩ := fld_int Try.underlying31 h 1 _ rfl Try.underlying29 (by kernel_rfl)
  have hl : cs.length = 2 := (struct_len Try.underlying31 h).trans (by kernel_rfl)
  have i3 : 0 ≤ i ∧ i ≤ 18446744073709551615 := by simpa [Lit.wf, IntKind.min, IntKind.max, IntKind.signed, IntKind.bits] using i2
  have j3 : 0 ≤ j ∧ j ≤ 18446744073709551615 := by simpa [Lit.wf, IntKind.min, IntKind.max, IntKind.signed, IntKind.bits] using j2
  obtain ⟨I, rfl⟩ := Int.eq_ofNat_of_zero_le i3.1
  obtain ⟨J, rfl⟩ := Int.eq_ofNat_of_zero_le j3.1
  exact ⟨⟨I, J⟩, list2 hl i1 j1, by show I < _; omega, by show J < _; omega⟩
set_option maxRecDepth 100000 in
theorem it_opens : OpensAs Try.prog 33 ItS.cells (fun _ e => e.fine) := fun encH w fuel cs x h hw => by
  have hl : cs.length = 4 := (struct_len Try.underlying33 h).trans (by kernel_rfl)
  obtain ⟨d, d1, d2⟩ := fld_open Try.underlying33 h hw 0 _ rfl dist_opens
  obtain ⟨i, i1, i2⟩ := fld_int Try.underlying33 h 1 _ rfl Try.underlying3 (by kernel_rfl)
  obtain ⟨j, j1, j2⟩ := fld_int Try.underlying33 h 2 _ rfl Try.underlying3 (by kernel_rfl)
  have d3 : cs.take 2 = dcells d := d1
  have e0 : cs[0]? = some (.int .u64 (d.1 : Nat)) := by
    have : (cs.take 2)[0]? = (dcells d)[0]? := by rw [d3]
    simpa [dcells] using this
  have e1 : cs[1]? = some (.int .u64 (d.2 : Nat)) := by
    have : (cs.take 2)[1]? = (dcells d)[1]? := by rw [d3]
    simpa [dcells] using this
  exact ⟨⟨d.1, d.2, i, j⟩, list4 hl e0 e1 i1 j1, d2.1, d2.2, bounds_i64 i2, bounds_i64 j2⟩
end Go.Proofs.Ytkjapmafipnmpaa
