/- Items stored into a row of ones own. -/
import Derived.Test.YtkjapmafipnmpaaH3
import Derived.Deep.DeepCutAuto
import Derived.Deep.RegionHeld3
namespace Go.Proofs.Ytkjapmafipnmpaa.Hp
open Go.RowKit Lt
set_option linter.unusedVariables false
set_option linter.unusedSimpArgs false
/-- Four cells of a row of items set anew. -/
def set4 (W : World) (g i : Nat) (x : ItS) : World := (((W.setCell ⟨g, i * 4, none⟩ (.int .u64 (x.hi : Nat))).setCell ⟨g, i * 4 + 1, none⟩ (.int .u64 (x.lo : Nat))).setCell ⟨g, i * 4 + 2, none⟩ (.int .i64 x.od)).setCell ⟨g, i * 4 + 3, none⟩ (.int .i64 x.id)
theorem flat_set : ∀ (l : List ItS) (i : Nat) (x : ItS), i < l.length → (((((l.flatMap ItS.cells).set (i * 4) (.int .u64 (x.hi : Nat))).set (i * 4 + 1) (.int .u64 (x.lo : Nat))).set (i * 4 + 2) (.int .i64 x.od)).set (i * 4 + 3) (.int .i64 x.id)) = (l.set i x).flatMap ItS.cells
  | a :: l, 0, x, _ => by simp [List.flatMap_cons, ItS.cells]
  | a :: l, i + 1, x, h => by
    have ih := flat_set l i x (by simpa using h)
    rw [List.set_cons_succ, List.flatMap_cons, List.flatMap_cons, ← ih]
    have e : (i + 1) * 4 = i * 4 + 1 + 1 + 1 + 1 := by omega
    rw [e]
    simp only [ItS.cells, List.cons_append, List.nil_append, List.set_cons_succ]
theorem own_set4 {W : World} {base g n cap : Nat} {l : List ItS} (h : W.ownsRow base 33 4 (.slice (some ⟨g, 0, none⟩) n cap) n (l.flatMap ItS.cells)) (i : Nat) (hi : i < l.length) (x : ItS) :
    (set4 W g i x).ownsRow base 33 4 (.slice (some ⟨g, 0, none⟩) n cap) n ((l.set i x).flatMap ItS.cells) := by
  have h1 := (h.stored (i * 4) (.int .u64 (x.hi : Nat))).1
  have h2 := (h1.stored (i * 4 + 1) (.int .u64 (x.lo : Nat))).1
  have h3 := (h2.stored (i * 4 + 2) (.int .i64 x.od)).1
  have h4 := (h3.stored (i * 4 + 3) (.int .i64 x.id)).1
  rw [flat_set l i x hi] at h4
  exact h4
/-- Nothing but the row's block is another. -/
theorem fr_set4 (W : World) (g i : Nat) (x : ItS) : Fr (fun k => k = g) W (set4 W g i x) := by
  have s1 : ∀ (W : World) (j : Nat) (u : Value), Fr (fun k => k = g) W (W.setCell ⟨g, j, none⟩ u) := fun W j u =>
    ⟨rfl, rfl, rfl, by simp, fun k _ hk => heap_setCell_other W ⟨g, j, none⟩ k u (fun e => hk (by simp [e]))⟩
  exact (((s1 W _ _).trans (s1 _ _ _) (fun k _ h => h)).trans (s1 _ _ _) (fun k _ h => h)).trans (s1 _ _ _) (fun k _ h => h)
/-- An item's four cells, and nothing there is frozen. -/
theorem own_at4 {W : World} {base g n cap : Nat} {l : List ItS} (h : W.ownsRow base 33 4 (.slice (some ⟨g, 0, none⟩) n cap) n (l.flatMap ItS.cells)) (k : Nat) (hk : k < l.length) :
    (W.cell? ⟨g, k * 4, none⟩ = some (.int .u64 (l[k].hi : Nat)) ∧ W.cell? ⟨g, k * 4 + 1, none⟩ = some (.int .u64 (l[k].lo : Nat)) ∧ W.cell? ⟨g, k * 4 + 2, none⟩ = some (.int .i64 l[k].od) ∧ W.cell? ⟨g, k * 4 + 3, none⟩ = some (.int .i64 l[k].id)) ∧ ∀ j, W.frozen? ⟨g, j, none⟩ = false := by
  have hs := srd_own ItS.cells_len (by decide) h
  obtain ⟨_, o, e, _, ci⟩ := hs.get ItS.cells_len (by decide) hk
  cases e
  refine ⟨⟨?_, ?_, ?_, ?_⟩, ?_⟩
  · simpa [ItS.cells] using ci 0 (by decide)
  · simpa [ItS.cells] using ci 1 (by decide)
  · simpa [ItS.cells] using ci 2 (by decide)
  · simpa [ItS.cells] using ci 3 (by decide)
  · obtain ⟨cs, hcs⟩ := own_typed h g rfl
    exact free_block hcs
end Go.Proofs.Ytkjapmafipnmpaa.Hp
