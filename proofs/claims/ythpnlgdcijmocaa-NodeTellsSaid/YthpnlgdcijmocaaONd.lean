/- Nodes that are arguments. -/
import Derived.Test.YthpnlgdcijmocaaOpen3
import Derived.Test.YthpnlgdcijmocaaOPt
import Derived.Test.YthpnlgdcijmocaaNd0
namespace Go.Proofs.Ythpnlgdcijmocaa
open Go.ChangeShapes Go.WideShapes Go.RowKit Nd
set_option linter.unusedVariables false
theorem fld_open {H : Type} {encH : TypeId × Value → H} {P : Program} {w : World} {α : Type} {enc : α → List Value} {fine : World → α → Prop} {t : TypeId} {fs : Array Field} {fuel : Nat} {cs : List Value} {x : DataW H × List MemPlace} (ht : P.underlying t = some (.struct fs))
    (h : DataW.trod encH P w 0 (fun _ => true) true fuel t cs = some x) (hw : ∀ m ∈ x.1.weights P t, m ≤ reachBytes) (i : Nat) (f : Field) (hf : fs[i]? = some f) (ho : OpensAs P f.type enc fine) : ∃ a, (cs.drop f.offset).take (P.cellsOf f.type) = enc a ∧ fine w a := by
  obtain ⟨n, y, h1, h2⟩ := fld_cells ht h hf
  exact ho encH w n _ y h1 (fun m hm => hw m (h2 m hm))
theorem arr4_opens : OpensAs Try.prog 47 (fun f : Nat → Int => lsI 4 f) (fun _ f => ∀ i, i < 4 → -9223372036854775808 ≤ f i ∧ f i ≤ 9223372036854775807) := fun encH w fuel cs x h hw => by
  obtain ⟨xs, m, rfl, _, hl, hx, hi⟩ := DataW.trod_array Try.underlying47 h
  have hc : Try.prog.cellsOf 3 = 1 := by kernel_rfl
  have hct : Try.prog.cellsOf 47 = 4 := by kernel_rfl
  rw [hct] at hl
  have h1 : ∀ i, i < 4 → ∃ z : Int, cs[i]? = some (.int .i64 z) ∧ -9223372036854775808 ≤ z ∧ z ≤ 9223372036854775807 := fun i hin => by
    have h2 := hi i hin
    rw [hc, Nat.mul_one] at h2
    rw [List.getElem?_eq_getElem (by omega)] at h2
    obtain ⟨z, h3, _, h4⟩ := DataW.trod_int Try.underlying3 h2
    exact ⟨z, get_of_take1 h3, bounds_i64 h4⟩
  obtain ⟨F, hF⟩ := Deep.choose_lt h1
  refine ⟨F, ?_, fun i hin => (hF i hin).2⟩
  apply List.ext_getElem?
  intro i
  by_cases hin : i < 4
  · rw [(hF i hin).1, lsI_get _ hin]
  · rw [List.getElem?_eq_none (by omega), List.getElem?_eq_none (by rw [lsI_len]; omega)]
theorem list11 {cs : List Value} {a0 a1 a2 a3 a4 a5 a6 a7 a8 a9 a10 : Value} (hl : cs.length = 11) (h0 : cs[0]? = some a0) (h1 : cs[1]? = some a1) (h2 : cs[2]? = some a2) (h3 : (cs.drop 3).take 4 = [a3, a4, a5, a6]) (h7 : (cs.drop 7).take 4 = [a7, a8, a9, a10]) :
    cs = [a0, a1, a2, a3, a4, a5, a6, a7, a8, a9, a10] := by
  match cs, hl with
  | [x0, x1, x2, x3, x4, x5, x6, x7, x8, x9, x10], _ =>
    simp at h0 h1 h2 h3 h7
    rw [h0, h1, h2, h3.1, h3.2.1, h3.2.2.1, h3.2.2.2, h7.1, h7.2.1, h7.2.2.1, h7.2.2.2]
def NdFine (w : World) (n : NdS) : Prop := (-9223372036854775808 ≤ n.next ∧ n.next ≤ 9223372036854775807) ∧ (∀ i, i < 4 → -9223372036854775808 ≤ n.ks i ∧ n.ks i ≤ 9223372036854775807) ∧ (∀ i, i < 4 → -9223372036854775808 ≤ n.cs i ∧ n.cs i ≤ 9223372036854775807) ∧ Nd.PRd w n.v n.pts ∧ (∀ p ∈ n.pts, p.fine) ∧ n.pts.length ≤ 4398046511103
theorem nd_opens : OpensAs Try.prog 49 NdS.cells (fun w n => NdFine w n) := fun encH w fuel cs x h hw => by
  have hl : cs.length = 11 := (struct_len Try.underlying49 h).trans (by kernel_rfl)
  obtain ⟨b, b1⟩ := fld_bool Try.underlying49 h 0 _ rfl Try.underlying4 (by kernel_rfl)
  obtain ⟨v, l, v1, v2, v3, v4⟩ := fld_slice pt_opens Try.underlying49 h hw 1 _ rfl Try.underlying46 (by kernel_rfl) (by kernel_rfl : _ = 4) (by decide) Pt.PtS.cells_len
  obtain ⟨k, k1, k2⟩ := fld_int Try.underlying49 h 2 _ rfl Try.underlying3 (by kernel_rfl)
  obtain ⟨f, f1, f2⟩ := fld_open Try.underlying49 h hw 3 _ rfl arr4_opens
  obtain ⟨g, g1, g2⟩ := fld_open Try.underlying49 h hw 4 _ rfl arr4_opens
  have hby : Try.prog.bytesOf 58 = 32 := by kernel_rfl
  rw [hby] at v4
  have hr : reachBytes = 140737488351232 := by decide
  have hc4 : Try.prog.cellsOf 47 = 4 := by kernel_rfl
  have f3 : (cs.drop 3).take 4 = [.int .i64 (f 0), .int .i64 (f 1), .int .i64 (f 2), .int .i64 (f 3)] := by rw [← hc4]; exact f1
  have g3 : (cs.drop 7).take 4 = [.int .i64 (g 0), .int .i64 (g 1), .int .i64 (g 2), .int .i64 (g 3)] := by rw [← hc4]; exact g1
  exact ⟨⟨b, v, l, k, f, g⟩, list11 hl b1 v1 k1 f3 g3, bounds_i64 k2, f2, g2, v2, v3, by show l.length ≤ _; omega⟩
end Go.Proofs.Ythpnlgdcijmocaa
