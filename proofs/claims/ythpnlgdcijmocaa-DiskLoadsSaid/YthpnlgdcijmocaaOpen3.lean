/- Arguments opened: whatever opens, and slices of it; structs' fields. -/
import Derived.Test.YthpnlgdcijmocaaOpen
import Derived.Test.YthpnlgdcijmocaaSl
namespace Go.Proofs.Ythpnlgdcijmocaa
open Go.ChangeShapes Go.WideShapes Go.RowKit
set_option linter.unusedVariables false
/-- Cells of type e that are read are those of some a, of which 'fine' holds. -/
def OpensAs {α : Type} (P : Program) (e : TypeId) (enc : α → List Value) (fine : World → α → Prop) : Prop :=
  ∀ {H : Type} (encH : TypeId × Value → H) (w : World) (fuel : Nat) (cs : List Value) (x : DataW H × List MemPlace), DataW.trod encH P w 0 (fun _ => true) true fuel e cs = some x → (∀ m ∈ x.1.weights P e, m ≤ reachBytes) → ∃ a, cs = enc a ∧ fine w a
section
variable {H : Type} {encH : TypeId × Value → H} {P : Program} {w : World}
theorem cells_slice {α : Type} {enc : α → List Value} {fine : World → α → Prop} {t e : TypeId} {c : Nat} (ho : OpensAs P e enc fine) (ht : P.underlying t = some (.slice e)) (hc : P.cellsOf e = c) (hc0 : 0 < c) (hlen : ∀ a, (enc a).length = c)
    {fuel : Nat} {cs : List Value} {x : DataW H × List MemPlace} (h : DataW.trod encH P w 0 (fun _ => true) true fuel t cs = some x) (hw : ∀ m ∈ x.1.weights P t, m ≤ reachBytes) :
    ∃ v l, cs = [v] ∧ SRd c enc w v l ∧ (∀ a ∈ l, fine w a) ∧ l.length * P.bytesOf e ≤ reachBytes := by
  rcases Deep.open_slice ht h with ⟨rfl, h2⟩ | ⟨a, len, cap, m, n, D, Pl, rfl, hb, hl, hm, hmm, rfl, hel⟩
  · exact ⟨_, [], rfl, srd_nil _ _ _, by simp, by simp⟩
  · have hmlen : m = cap := by simpa using hmm
    have hby : len * P.bytesOf e ≤ reachBytes := by
      have := hw ((((List.range len).map D).length + ((List.range (m - len)).map fun j => D (len + j)).length) * P.bytesOf e) (by simp [DataW.weights, ht])
      simp only [List.length_map, List.length_range] at this
      exact Nat.le_trans (Nat.mul_le_mul_right _ (by omega)) this
    have h1 : ∀ i, i < len → ∃ y : α, fine w y ∧ ∀ j, j < c → w.cell? (a.add (i * c + j)) = (enc y)[j]? := fun i hi => by
      obtain ⟨cs', h1, h2⟩ := hel i (by omega)
      have hcs := World.cells?_some h1
      obtain ⟨y, rfl, hy⟩ := ho encH w n cs' (D i, Pl i) h2 (fun m' hm' => hw m' (by
        simp only [DataW.weights, ht, List.mem_cons, List.mem_append]
        exact .inr (.inl (weights_mem_all (d := D i) (List.mem_map.2 ⟨i, List.mem_range.2 hi, rfl⟩) m' hm'))))
      refine ⟨y, hy, fun j hj => ?_⟩
      rw [hc] at hcs
      rw [← hcs.2.2 j hj, Deep.add_add]
    rcases Nat.eq_zero_or_pos len with hz | hz
    · subst hz
      exact ⟨_, [], rfl, ⟨some a, cap, rfl, Nat.zero_le _, Rd.nil _ _⟩, by simp, by simp⟩
    haveI : Inhabited α := ⟨(h1 0 hz).choose⟩
    obtain ⟨F, hF⟩ := Deep.choose_lt h1
    refine ⟨_, (List.range len).map F, rfl, ⟨some a, cap, by simp, by simpa using hl, fun i hi => ⟨a, rfl, ?_⟩⟩, fun y hy => ?_, by simpa using hby⟩
    · rw [flat_len hlen, List.length_map, List.length_range] at hi
      have hdm := Nat.div_add_mod' i c
      have hil : i / c < len := (Nat.div_lt_iff_lt_mul hc0).2 hi
      have hml := Nat.mod_lt i hc0
      rw [← hdm, (hF _ hil).2 _ hml, flat_get hlen _ _ (by simpa using hil) _ hml]
      simp
    · obtain ⟨i, hi, rfl⟩ := List.mem_map.1 hy
      exact (hF i (List.mem_range.1 hi)).1
/-- A slice that is an argument. -/
theorem open_slice {α : Type} {enc : α → List Value} {fine : World → α → Prop} {t e : TypeId} {c : Nat} (ho : OpensAs P e enc fine) (ht : P.underlying t = some (.slice e)) (hc : P.cellsOf e = c) (hc0 : 0 < c) (hlen : ∀ a, (enc a).length = c)
    {r : Reach} {b0 : Nat} {v : Value} {d : DataW H} {ps : List MemPlace} (hval : Value.okWide P w r b0 t v) (hd : DataW.Trod encH P w 0 (fun _ => true) true t v d ps) (hw : ∀ m ∈ d.weights P t, m ≤ reachBytes) :
    ∃ l, SRd c enc w v l ∧ (∀ a ∈ l, fine w a) ∧ l.length * P.bytesOf e ≤ reachBytes := by
  obtain ⟨A, len, cap, rfl⟩ := okWide_slice ht hval
  obtain ⟨fuel, hf⟩ := hd
  obtain ⟨v', l, h1, h2⟩ := cells_slice ho ht hc hc0 hlen hf hw
  simp [Value.cells] at h1
  subst h1
  exact ⟨l, h2⟩
/-- A struct that is an argument. -/
theorem open_struct {α : Type} {enc : α → List Value} {fine : World → α → Prop} {t : TypeId} {fs : Array Field} (ho : OpensAs P t enc fine) (ht : P.underlying t = some (.struct fs))
    {r : Reach} {b0 : Nat} {v : Value} {d : DataW H} {ps : List MemPlace} (hval : Value.okWide P w r b0 t v) (hd : DataW.Trod encH P w 0 (fun _ => true) true t v d ps) (hw : ∀ m ∈ d.weights P t, m ≤ reachBytes) :
    ∃ a, v = .agg (enc a).toArray ∧ fine w a := by
  obtain ⟨cs, rfl, _⟩ := okWide_struct ht hval
  obtain ⟨fuel, hf⟩ := hd
  obtain ⟨a, h1, h2⟩ := ho encH w fuel _ _ hf hw
  refine ⟨a, ?_, h2⟩
  have : cs.toList = enc a := by simpa [Value.cells] using h1
  rw [← this]
theorem fld_bool {t : TypeId} {fs : Array Field} {fuel : Nat} {cs : List Value} {x : DataW H × List MemPlace} {sp : Nat → Bool} {b0 : Nat} {hd : Bool} (ht : P.underlying t = some (.struct fs)) (h : DataW.trod encH P w b0 sp hd fuel t cs = some x)
    (i : Nat) (f : Field) (hf : fs[i]? = some f) (hu : P.underlying f.type = some .bool) (hc : P.cellsOf f.type = 1) : ∃ b, cs[f.offset]? = some (.bool b) := by
  obtain ⟨n, y, h1, _⟩ := fld_cells ht h hf
  rw [hc] at h1
  obtain ⟨b, h2, _⟩ := DataW.trod_bool hu h1
  exact ⟨b, get_of_take1 h2⟩
theorem fld_slice {α : Type} {enc : α → List Value} {fine : World → α → Prop} {e : TypeId} {c : Nat} (ho : OpensAs P e enc fine) {t : TypeId} {fs : Array Field} {fuel : Nat} {cs : List Value} {x : DataW H × List MemPlace} (ht : P.underlying t = some (.struct fs))
    (h : DataW.trod encH P w 0 (fun _ => true) true fuel t cs = some x) (hw : ∀ m ∈ x.1.weights P t, m ≤ reachBytes)
    (i : Nat) (f : Field) (hf : fs[i]? = some f) (hu : P.underlying f.type = some (.slice e)) (hc1 : P.cellsOf f.type = 1) (hc : P.cellsOf e = c) (hc0 : 0 < c) (hlen : ∀ a, (enc a).length = c) :
    ∃ v l, cs[f.offset]? = some v ∧ SRd c enc w v l ∧ (∀ a ∈ l, fine w a) ∧ l.length * P.bytesOf e ≤ reachBytes := by
  obtain ⟨n, y, h1, h2⟩ := fld_cells ht h hf
  rw [hc1] at h1
  obtain ⟨v, l, h3, h4⟩ := cells_slice ho hu hc hc0 hlen h1 (fun m hm => hw m (h2 m hm))
  exact ⟨v, l, get_of_take1 h3, h4⟩
theorem struct_len {t : TypeId} {fs : Array Field} {fuel : Nat} {cs : List Value} {x : DataW H × List MemPlace} {sp : Nat → Bool} {b0 : Nat} {hd : Bool} (ht : P.underlying t = some (.struct fs)) (h : DataW.trod encH P w b0 sp hd fuel t cs = some x) : cs.length = P.cellsOf t := by
  obtain ⟨xs, n, _, _, hl, _⟩ := DataW.trod_struct ht h
  exact hl
end
theorem list2 {cs : List Value} {a b : Value} (h : cs.length = 2) (h0 : cs[0]? = some a) (h1 : cs[1]? = some b) : cs = [a, b] := by
  match cs, h with
  | [x, y], _ => simp at h0 h1; rw [h0, h1]
theorem list3 {cs : List Value} {a b c : Value} (h : cs.length = 3) (h0 : cs[0]? = some a) (h1 : cs[1]? = some b) (h2 : cs[2]? = some c) : cs = [a, b, c] := by
  match cs, h with
  | [x, y, z], _ => simp at h0 h1 h2; rw [h0, h1, h2]
theorem list4 {cs : List Value} {a b c d : Value} (h : cs.length = 4) (h0 : cs[0]? = some a) (h1 : cs[1]? = some b) (h2 : cs[2]? = some c) (h3 : cs[3]? = some d) : cs = [a, b, c, d] := by
  match cs, h with
  | [x, y, z, u], _ => simp at h0 h1 h2 h3; rw [h0, h1, h2, h3]
end Go.Proofs.Ythpnlgdcijmocaa
