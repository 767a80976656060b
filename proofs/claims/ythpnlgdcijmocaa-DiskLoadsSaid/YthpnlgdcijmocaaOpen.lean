/- Arguments opened: octets, rows of structs, their fields. -/
import Derived.Test.YthpnlgdcijmocaaLaw
import Derived.Test.YthpnlgdcijmocaaMem
import Derived.ChangeArms
import Derived.Deep.Slices
import Derived.ChangeMaps5
namespace Go.Proofs.Ythpnlgdcijmocaa
open Go.ChangeShapes Go.WideShapes Go.RowKit
set_option linter.unusedVariables false

theorem weights_mem_all {H : Type} {P : Program} {e : TypeId} : ∀ {ds : List (DataW H)} {d : DataW H}, d ∈ ds → ∀ n ∈ d.weights P e, n ∈ DataW.weightsAll P e ds
  | d0 :: ds, d, h, n, hn => by
    simp only [DataW.weightsAll, List.mem_append]
    rcases List.mem_cons.1 h with rfl | h
    · exact .inl hn
    · exact .inr (weights_mem_all h n hn)
section
variable {H : Type} {enc : TypeId × Value → H} {P : Program} {w : World}
/-- Row i of c cells at the address. -/
def RdS (w : World) (A : Option Addr) (c : Nat) (rows : List (List Value)) : Prop := ∀ i (h : i < rows.length), rows[i].length = c ∧ ∀ j, j < c → ∃ ad, A = some ad ∧ w.cell? (ad.add (i * c + j)) = rows[i][j]?
theorem open_rows {t e : TypeId} {r : Reach} {b0 : Nat} {v : Value} {d : DataW H} {ps : List MemPlace} (ht : P.underlying t = some (.slice e)) (hval : Value.okWide P w r b0 t v) (hd : DataW.Trod enc P w 0 (fun _ => true) true t v d ps)
    (hw : ∀ m ∈ d.weights P t, m ≤ reachBytes) :
    ∃ A len cap, v = .slice A len cap ∧ len ≤ cap ∧ len * P.bytesOf e ≤ reachBytes ∧ ∀ i, i < len → ∃ cs n x, cs.length = P.cellsOf e ∧ (∀ j, j < P.cellsOf e → ∃ ad, A = some ad ∧ w.cell? (ad.add (i * P.cellsOf e + j)) = cs[j]?) ∧
      DataW.trod enc P w 0 (fun _ => true) true n e cs = some x ∧ ∀ m ∈ x.1.weights P e, m ≤ reachBytes := by
  obtain ⟨A, len, cap, rfl⟩ := okWide_slice ht hval
  obtain ⟨fuel, hf⟩ := hd
  rcases Deep.open_slice ht hf with ⟨h1, h2⟩ | ⟨a, len', cap', m, n, D, Pl, h1, hb, hl, hm, hmm, hx, hel⟩
  · simp [Value.cells] at h1
    obtain ⟨rfl, rfl, rfl⟩ := h1
    exact ⟨none, 0, 0, rfl, Nat.le_refl _, by simp, fun i hi => absurd hi (by omega)⟩
  · simp [Value.cells] at h1
    obtain ⟨rfl, rfl, rfl⟩ := h1
    simp only [Prod.mk.injEq] at hx
    obtain ⟨rfl, rfl⟩ := hx
    refine ⟨some a, len, cap, rfl, hl, ?_, fun i hi => ?_⟩
    · have := hw ((((List.range len).map D).length + ((List.range (m - len)).map fun j => D (len + j)).length) * P.bytesOf e) (by simp [DataW.weights, ht])
      simp only [List.length_map, List.length_range] at this
      exact Nat.le_trans (Nat.mul_le_mul_right _ (by omega)) this
    · have hmi : i < m := by simp at hmm; omega
      obtain ⟨cs', h1, h2⟩ := hel i hmi
      have hc := World.cells?_some h1
      refine ⟨cs', n, _, hc.2.1, fun j hj => ⟨a, rfl, ?_⟩, h2, fun m' hm' => hw m' ?_⟩
      · rw [← Deep.add_add]
        exact (hc.2.2 j hj)
      · simp only [DataW.weights, ht, List.mem_cons, List.mem_append]
        exact .inr (.inl (weights_mem_all (d := D i) (List.mem_map.2 ⟨i, List.mem_range.2 hi, rfl⟩) m' hm'))
theorem fld_cells {t : TypeId} {fs : Array Field} {fuel : Nat} {cs : List Value} {x : DataW H × List MemPlace} {sp : Nat → Bool} {b0 : Nat} {hd : Bool} (ht : P.underlying t = some (.struct fs)) (h : DataW.trod enc P w b0 sp hd fuel t cs = some x)
    {i : Nat} {f : Field} (hf : fs[i]? = some f) : ∃ n y, DataW.trod enc P w b0 sp hd n f.type ((cs.drop f.offset).take (P.cellsOf f.type)) = some y ∧ ∀ m ∈ y.1.weights P f.type, m ∈ x.1.weights P t := by
  obtain ⟨xs, n, rfl, rfl, hl, hxs, hi⟩ := DataW.trod_struct ht h
  have hil : i < xs.length := by rw [hxs]; exact (Array.getElem?_eq_some_iff.1 hf).1
  have h1 := hi i f hf
  rw [List.getElem?_eq_getElem hil] at h1
  refine ⟨n, xs[i], h1, fun m hm => ?_⟩
  simp only [DataW.weights, ht]
  refine DataW.weights_mem_each (j := i) (t := f.type) (d := xs[i].1) ?_ ?_ m hm
  · rw [List.getElem?_map, Array.getElem?_toList, hf]; rfl
  · rw [List.getElem?_map, List.getElem?_eq_getElem hil]; rfl
theorem get_of_take1 {cs : List Value} {o : Nat} {v : Value} (h : (cs.drop o).take 1 = [v]) : cs[o]? = some v := by
  have : ((cs.drop o).take 1)[0]? = some v := by rw [h]; rfl
  rw [List.getElem?_take, if_pos (by omega), List.getElem?_drop] at this
  simpa using this
theorem fld_int {t : TypeId} {fs : Array Field} {fuel : Nat} {cs : List Value} {x : DataW H × List MemPlace} {sp : Nat → Bool} {b0 : Nat} {hd : Bool} {k : IntKind} (ht : P.underlying t = some (.struct fs)) (h : DataW.trod enc P w b0 sp hd fuel t cs = some x)
    (i : Nat) (f : Field) (hf : fs[i]? = some f) (hu : P.underlying f.type = some (.int k)) (hc : P.cellsOf f.type = 1) : ∃ n, cs[f.offset]? = some (.int k n) ∧ (Lit.int k n).wf = true := by
  obtain ⟨n, y, h1, _⟩ := fld_cells ht h hf
  rw [hc] at h1
  obtain ⟨m, h2, _, h3⟩ := DataW.trod_int hu h1
  exact ⟨m, get_of_take1 h2, h3⟩
theorem fld_string {t : TypeId} {fs : Array Field} {fuel : Nat} {cs : List Value} {x : DataW H × List MemPlace} {sp : Nat → Bool} {b0 : Nat} {hd : Bool} (ht : P.underlying t = some (.struct fs)) (h : DataW.trod enc P w b0 sp hd fuel t cs = some x)
    (hw : ∀ m ∈ x.1.weights P t, m ≤ reachBytes) (i : Nat) (f : Field) (hf : fs[i]? = some f) (hu : P.underlying f.type = some .string) (hc : P.cellsOf f.type = 1) : ∃ s : ByteArray, cs[f.offset]? = some (.string s) ∧ s.size ≤ reachBytes := by
  obtain ⟨n, y, h1, h2⟩ := fld_cells ht h hf
  rw [hc] at h1
  obtain ⟨s, h3, rfl, h4⟩ := DataW.trod_string hu h1
  refine ⟨s, get_of_take1 h3, ?_⟩
  have := hw _ (h2 s.data.toList.length (by simp [DataW.weights]))
  rw [Array.length_toList] at this
  exact this
theorem open_bytes {t e : TypeId} {r : Reach} {b0 : Nat} {v : Value} {d : DataW H} {ps : List MemPlace} (ht : P.underlying t = some (.slice e)) (he : P.underlying e = some (.int .u8)) (hc : P.cellsOf e = 1) (hby : P.bytesOf e = 1)
    (hval : Value.okWide P w r b0 t v) (hd : DataW.Trod enc P w 0 (fun _ => true) true t v d ps) (hw : ∀ m ∈ d.weights P t, m ≤ reachBytes) : ∃ l, BRd w v l ∧ l.length ≤ reachBytes := by
  obtain ⟨A, len, cap, rfl, hl, hby', hel⟩ := open_rows ht hval hd hw
  rw [hby, Nat.mul_one] at hby'
  have h1 : ∀ i, i < len → ∃ c : UInt8, ∃ ad, A = some ad ∧ w.cell? (ad.add i) = some (.int .u8 c.toNat) := fun i hi => by
    obtain ⟨cs, n, x, _, h2, h3, _⟩ := hel i hi
    obtain ⟨m, h4, _, h5⟩ := DataW.trod_int he h3
    obtain ⟨ad, e1, e2⟩ := h2 0 (by omega)
    rw [hc, Nat.mul_one, Nat.add_zero, h4] at e2
    have hb := bounds_u8 h5
    refine ⟨UInt8.ofNat m.toNat, ad, e1, ?_⟩
    rw [e2]
    have : (UInt8.ofNat m.toNat).toNat = m.toNat := by simp; omega
    rw [this]
    simp; omega
  obtain ⟨F, hF⟩ := Deep.choose_lt (α := UInt8) h1
  have hr : Rd w A (bv ((List.range len).map F)) := fun i hi => by
    have hi' : i < len := by simpa [bv] using hi
    obtain ⟨ad, e1, e2⟩ := hF i hi'
    exact ⟨ad, e1, by rw [e2]; simp [bv, hi']⟩
  refine ⟨(List.range len).map F, ⟨A, cap, by simp, by simpa using hl, hr, fun ad e hl0 => Rd.brd 0 hr hl0 ad e⟩, by simpa using hby'⟩
end
theorem sz_of {H : Type} {P : Program} {ts : List TypeId} {ds : List (DataW H)} (h : (DataW.weightsEach P ts ds).all (· ≤ reachBytes) = true) (j : Nat) (t : TypeId) (d : DataW H) (ht : ts[j]? = some t) (hd : ds[j]? = some d) : ∀ m ∈ d.weights P t, m ≤ reachBytes := fun m hm => by
  have := List.all_eq_true.1 h m (DataW.weights_mem_each ht hd m hm)
  simpa using this
theorem reach_le : reachBytes ≤ 140737488355328 := by decide
end Go.Proofs.Ythpnlgdcijmocaa
