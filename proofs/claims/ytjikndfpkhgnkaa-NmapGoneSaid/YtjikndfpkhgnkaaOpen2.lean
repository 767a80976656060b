/- Arguments opened: arrays of ints; the shell's openers. -/
import Derived.Test.YtjikndfpkhgnkaaOpen
import Derived.Test.YtjikndfpkhgnkaaArr
import Derived.Test.YtjikndfpkhgnkaaInts
namespace Go.Proofs.Ytjikndfpkhgnkaa
open Go.ChangeShapes Go.WideShapes Go.RowKit
set_option linter.unusedVariables false
section
variable {H : Type} {enc : TypeId × Value → H} {P : Program} {w : World}
/-- Cells that read as an array of ints. -/
theorem cells_arrI {t e : TypeId} {n : Nat} {fuel b0 : Nat} {sp : Nat → Bool} {hd : Bool} {cs : List Value} {x : DataW H × List MemPlace} (ht : P.underlying t = some (.array n e)) (he : P.underlying e = some (.int .i64)) (hc : P.cellsOf e = 1) (hct : P.cellsOf t = n)
    (h : DataW.trod enc P w b0 sp hd fuel t cs = some x) : ∃ f : Nat → Int, cs = lsI n f ∧ ∀ i, i < n → -9223372036854775808 ≤ f i ∧ f i ≤ 9223372036854775807 := by
  obtain ⟨xs, m, rfl, _, hl, hx, hi⟩ := DataW.trod_array ht h
  rw [hct] at hl
  have h1 : ∀ i, i < n → ∃ z : Int, cs[i]? = some (.int .i64 z) ∧ -9223372036854775808 ≤ z ∧ z ≤ 9223372036854775807 := fun i hin => by
    have h2 := hi i hin
    rw [hc, Nat.mul_one] at h2
    rw [List.getElem?_eq_getElem (by omega)] at h2
    obtain ⟨z, h3, _, h4⟩ := DataW.trod_int he h2
    exact ⟨z, get_of_take1 h3, bounds_i64 h4⟩
  obtain ⟨F, hF⟩ := Deep.choose_lt h1
  refine ⟨F, ?_, fun i hin => (hF i hin).2⟩
  apply List.ext_getElem?
  intro i
  by_cases hin : i < n
  · rw [(hF i hin).1, lsI_get _ hin]
  · rw [List.getElem?_eq_none (by omega), List.getElem?_eq_none (by rw [lsI_len]; omega)]
theorem open_arrI {t e : TypeId} {n : Nat} {r : Reach} {b0 : Nat} {v : Value} {d : DataW H} {ps : List MemPlace} (ht : P.underlying t = some (.array n e)) (he : P.underlying e = some (.int .i64)) (hc : P.cellsOf e = 1) (hct : P.cellsOf t = n)
    (hval : Value.okWide P w r b0 t v) (hd : DataW.Trod enc P w 0 (fun _ => true) true t v d ps) : ∃ f : Nat → Int, v = .agg (lsI n f).toArray ∧ ∀ i, i < n → -9223372036854775808 ≤ f i ∧ f i ≤ 9223372036854775807 := by
  unfold Value.okWide at hval
  rw [ht] at hval
  obtain ⟨cs, rfl, _⟩ := hval
  obtain ⟨fuel, hf⟩ := hd
  obtain ⟨f, h1, h2⟩ := cells_arrI ht he hc hct hf
  refine ⟨f, ?_, h2⟩
  have : cs.toList = lsI n f := by simpa [Value.cells] using h1
  rw [← this]
/-- Ints that are read. -/
theorem open_ints' {t e : TypeId} {r : Reach} {b0 : Nat} {v : Value} {d : DataW H} {ps : List MemPlace} (ht : P.underlying t = some (.slice e)) (he : P.underlying e = some (.int .i64)) (hc : P.cellsOf e = 1) (hby : P.bytesOf e = 8)
    (hval : Value.okWide P w r b0 t v) (hd : DataW.Trod enc P w 0 (fun _ => true) true t v d ps) (hw : ∀ m ∈ d.weights P t, m ≤ reachBytes) :
    ∃ l : List Int, IRd w v l ∧ l.length * 8 ≤ reachBytes ∧ ∀ x ∈ l, -9223372036854775808 ≤ x ∧ x ≤ 9223372036854775807 := by
  obtain ⟨A, len, cap, rfl, hl, hby', hel⟩ := open_rows ht hval hd hw
  rw [hby] at hby'
  have h1 : ∀ i, i < len → ∃ z : Int, (-9223372036854775808 ≤ z ∧ z ≤ 9223372036854775807) ∧ ∃ ad, A = some ad ∧ w.cell? (ad.add i) = some (.int .i64 z) := fun i hi => by
    obtain ⟨cs, n, x, _, h2, h3, _⟩ := hel i hi
    obtain ⟨m, h4, _, h5⟩ := DataW.trod_int he h3
    obtain ⟨ad, e1, e2⟩ := h2 0 (by omega)
    rw [hc, Nat.mul_one, Nat.add_zero, h4] at e2
    exact ⟨m, bounds_i64 h5, ad, e1, by rw [e2]; rfl⟩
  obtain ⟨F, hF⟩ := Deep.choose_lt (α := Int) h1
  refine ⟨(List.range len).map F, ⟨A, cap, by simp, by simpa using hl, fun i hi => ?_⟩, by simpa using hby', ?_⟩
  · have hi' : i < len := by simpa [iv] using hi
    obtain ⟨_, ad, e1, e2⟩ := hF i hi'
    exact ⟨ad, e1, by rw [e2]; simp [iv, hi']⟩
  · intro x hx
    obtain ⟨i, hi, rfl⟩ := List.mem_map.1 hx
    exact (hF i (List.mem_range.1 hi)).1
end
end Go.Proofs.Ytjikndfpkhgnkaa
