/- Points stored into a row of one's own; the walk over slices.swapRangeCmpFunc. -/
import Derived.Test.YtdomngpkahgoiaaSt1
import Derived.Test.YtdomngpkahgoiaaPtD
import Derived.Test.YtdomngpkahgoiaaSl
import Derived.Test.YtdomngpkahgoiaaRg
import Derived.Deep.DeepCutAuto
import Derived.Deep.RegionHeld3
namespace Go.Proofs.Ytdomngpkahgoiaa.St
open Go.RowKit Rg Pt
set_option linter.unusedVariables false
set_option linter.unusedSimpArgs false
/-- Four cells of a row of items set anew. -/
def set4 (W : World) (g i : Nat) (x : PtS) : World := (((W.setCell ⟨g, i * 4, none⟩ (.int .i64 x.id)).setCell ⟨g, i * 4 + 1, none⟩ (.int .u32 (x.x : Nat))).setCell ⟨g, i * 4 + 2, none⟩ (.int .u32 (x.y : Nat))).setCell ⟨g, i * 4 + 3, none⟩ (.string x.d)
theorem flat_set : ∀ (l : List PtS) (i : Nat) (x : PtS), i < l.length → (((((l.flatMap PtS.cells).set (i * 4) (.int .i64 x.id)).set (i * 4 + 1) (.int .u32 (x.x : Nat))).set (i * 4 + 2) (.int .u32 (x.y : Nat))).set (i * 4 + 3) (.string x.d)) = (l.set i x).flatMap PtS.cells
  | a :: l, 0, x, _ => by simp [List.flatMap_cons, PtS.cells]
  | a :: l, i + 1, x, h => by
    have ih := flat_set l i x (by simpa using h)
    rw [List.set_cons_succ, List.flatMap_cons, List.flatMap_cons, ← ih]
    have e : (i + 1) * 4 = i * 4 + 1 + 1 + 1 + 1 := by omega
    rw [e]
    simp only [PtS.cells, List.cons_append, List.nil_append, List.set_cons_succ]
theorem own_set4 {W : World} {base g n cap : Nat} {l : List PtS} (h : W.ownsRow base 56 4 (.slice (some ⟨g, 0, none⟩) n cap) n (l.flatMap PtS.cells)) (i : Nat) (hi : i < l.length) (x : PtS) :
    (set4 W g i x).ownsRow base 56 4 (.slice (some ⟨g, 0, none⟩) n cap) n ((l.set i x).flatMap PtS.cells) := by
  have h1 := (h.stored (i * 4) (.int .i64 x.id)).1
  have h2 := (h1.stored (i * 4 + 1) (.int .u32 (x.x : Nat))).1
  have h3 := (h2.stored (i * 4 + 2) (.int .u32 (x.y : Nat))).1
  have h4 := (h3.stored (i * 4 + 3) (.string x.d)).1
  rw [flat_set l i x hi] at h4
  exact h4
/-- Nothing but the row's block is another. -/
theorem fr_set4 (W : World) (g i : Nat) (x : PtS) : Fr (fun k => k = g) W (set4 W g i x) := by
  have s1 : ∀ (W : World) (j : Nat) (u : Value), Fr (fun k => k = g) W (W.setCell ⟨g, j, none⟩ u) := fun W j u =>
    ⟨rfl, rfl, rfl, by simp, fun k _ hk => heap_setCell_other W ⟨g, j, none⟩ k u (fun e => hk (by simp [e]))⟩
  exact (((s1 W _ _).trans (s1 _ _ _) (fun k _ h => h)).trans (s1 _ _ _) (fun k _ h => h)).trans (s1 _ _ _) (fun k _ h => h)
/-- An item's four cells, and nothing there is frozen. -/
theorem own_at4 {W : World} {base g n cap : Nat} {l : List PtS} (h : W.ownsRow base 56 4 (.slice (some ⟨g, 0, none⟩) n cap) n (l.flatMap PtS.cells)) (k : Nat) (hk : k < l.length) :
    (W.cell? ⟨g, k * 4, none⟩ = some (.int .i64 l[k].id) ∧ W.cell? ⟨g, k * 4 + 1, none⟩ = some (.int .u32 (l[k].x : Nat)) ∧ W.cell? ⟨g, k * 4 + 2, none⟩ = some (.int .u32 (l[k].y : Nat)) ∧ W.cell? ⟨g, k * 4 + 3, none⟩ = some (.string l[k].d)) ∧ ∀ j, W.frozen? ⟨g, j, none⟩ = false := by
  have hs := srd_own PtS.cells_len (by decide) h
  obtain ⟨_, o, e, _, ci⟩ := hs.get PtS.cells_len (by decide) hk
  cases e
  refine ⟨⟨?_, ?_, ?_, ?_⟩, ?_⟩
  · simpa [PtS.cells] using ci 0 (by decide)
  · simpa [PtS.cells] using ci 1 (by decide)
  · simpa [PtS.cells] using ci 2 (by decide)
  · simpa [PtS.cells] using ci 3 (by decide)
  · obtain ⟨cs, hcs⟩ := own_typed h g rfl
    exact free_block hcs
end Go.Proofs.Ytdomngpkahgoiaa.St
