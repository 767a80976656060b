/- Arguments opened: ints that are read (over Iv; Open2 has the same over Ints). -/
import Derived.Test.YthpnlgdcijmocaaOpen
import Derived.Test.YthpnlgdcijmocaaIv
namespace Go.Proofs.Ythpnlgdcijmocaa
open Go.ChangeShapes Go.WideShapes Go.RowKit
set_option linter.unusedVariables false
section
variable {H : Type} {enc : TypeId × Value → H} {P : Program} {w : World}
/-- Ints that are read. -/
theorem open_ints' {t e : TypeId} {r : Reach} {b0 : Nat} {v : Value} {d : DataW H} {ps : List MemPlace} (ht : P.underlying t = some (.slice e)) (he : P.underlying e = some (.int .i64)) (hc : P.cellsOf e = 1) (hby : P.bytesOf e = 8)
    (hval : Value.okWide P w r b0 t v) (hd : DataW.Trod enc P w 0 (fun _ => true) true t v d ps) (hw : ∀ m ∈ d.weights P t, m ≤ reachBytes) :
    ∃ l : List Int, IRd w v l ∧ l.length * 8 ≤ reachBytes ∧ ∀ x ∈ l, -9223372036854775808 ≤ x ∧ x ≤ 9223372036854775807 := by
  obtain ⟨A, len, cap, rfl, hl, hby', hel⟩ := open_rows ht hval hd hw
  rw [hby] at hby'
  have h1 : ∀ i, i < len → ∃ z : Int, (-9223372036854775808 ≤ z ∧ z ≤ 9223372036854775807) ∧ ∃ ad, A = some ad ∧ w.cell? (ad.add i) = some (.int .i64 z) := fun i hi => by
    obtain ⟨cs, n, x, _, h2, h3, _⟩ := hel i hi
    obtain ⟨m, h4, _, h5⟩ := DataW.trod_int he h3
    obtain ⟨ad, e1, e2⟩ := h2 0 (by omega)
    rw [hc, Nat.mul_one, Nat.add_zero, h4] at e2
    exact ⟨m, bounds_i64 h5, ad, e1, by rw [e2]; rfl⟩
  obtain ⟨F, hF⟩ := Deep.choose_lt (α := Int) h1
  refine ⟨(List.range len).map F, ⟨A, cap, by simp, by simpa using hl, fun i hi => ?_⟩, by simpa using hby', ?_⟩
  · have hi' : i < len := by simpa [iv] using hi
    obtain ⟨_, ad, e1, e2⟩ := hF i hi'
    exact ⟨ad, e1, by rw [e2]; simp [iv, hi']⟩
  · intro x hx
    obtain ⟨i, hi, rfl⟩ := List.mem_map.1 hx
    exact (hF i (List.mem_range.1 hi)).1
end
end Go.Proofs.Ythpnlgdcijmocaa
