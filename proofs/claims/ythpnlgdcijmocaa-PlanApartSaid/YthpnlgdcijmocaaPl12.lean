/- A made row of entries. -/
import Derived.Test.YthpnlgdcijmocaaPl10
import Derived.Laws.MakeOwn
namespace Go.Proofs.Ythpnlgdcijmocaa.Pl
open Go.RowKit Rg
theorem made_e (M : Nat) : (madeCells #[Value.int .i64 0, .int .i64 0] (M * 2)).toList = (List.replicate M (⟨0, 0⟩ : EntS)).flatMap EntS.cells := by
  have hl : ((List.replicate M (⟨0, 0⟩ : EntS)).flatMap EntS.cells) = List.replicate (M * 2) (.int .i64 0) := by
    refine List.eq_replicate_iff.2 ⟨by rw [flat_len EntS.cells_len, List.length_replicate], fun u hu => ?_⟩
    obtain ⟨x, hx, hu⟩ := List.mem_flatMap.1 hu
    rw [(List.mem_replicate.1 hx).2] at hu
    simpa [EntS.cells] using hu
  rw [hl]
  have h : ∀ i, (#[Value.int .i64 0, .int .i64 0] : Array Value)[i % 2]! = .int .i64 0 := fun i => by
    rcases (by omega : i % 2 = 0 ∨ i % 2 = 1) with e | e <;> rw [e] <;> rfl
  simp only [madeCells, Array.toList_map, Array.toList_range]
  refine List.ext_getElem (by simp) fun i h1 h2 => ?_
  simp only [List.getElem_map, List.getElem_replicate]
  exact h _
theorem make_e (M : Nat) (hM : M ≤ 1000) (W : World) : (Instr.makeSlice 22 (.int .i64 M) (.int .i64 M)).run Try.prog W = .ok (.slice (some ⟨W.heap.size, 0, none⟩) M M) (W.alloc (.cells (madeCells #[.int .i64 0, .int .i64 0] (M * 2)) 39)) := by
  have h := infoP_ent
  cases hi : Try.prog.info? 39 with
  | none => rw [hi] at h; cases h
  | some i =>
    rw [hi] at h
    simp only [Option.map_some, Option.some.injEq, Prod.mk.injEq] at h
    obtain ⟨hz, hs, hb⟩ := h
    have := run_makeSlice (P := Try.prog) (w := W) 22 39 i (.agg #[.int .i64 0, .int .i64 0]) Try.underlying22 hi hz .i64 .i64 M M (by omega) (by omega) (by rw [hs]; omega) (by rw [hb]; omega) (by omega)
    rw [hs] at this
    exact this
theorem set_e : ∀ (l : List EntS) (i : Nat) (x : EntS), i < l.length → ((l.flatMap EntS.cells).set (i * 2) (.int .i64 x.kind)).set (i * 2 + 1) (.int .i64 x.id) = (l.set i x).flatMap EntS.cells
  | [], i, x, h => absurd h (Nat.not_lt_zero i)
  | a :: t, 0, x, _ => by simp [EntS.cells]
  | a :: t, i + 1, x, h => by
    have ih := set_e t i x (by simpa using h)
    rw [List.set_cons_succ, List.flatMap_cons, List.flatMap_cons, ← ih]
    rw [show (i + 1) * 2 = i * 2 + 1 + 1 by omega]
    simp [EntS.cells]
end Go.Proofs.Ythpnlgdcijmocaa.Pl
