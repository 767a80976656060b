/- Cells stored into a row of one's own. -/
import Derived.Test.YtdomngpkahgoiaaSt1
import Derived.Test.YtdomngpkahgoiaaTi0
import Derived.Test.YtdomngpkahgoiaaSl
import Derived.Test.YtdomngpkahgoiaaRg
import Derived.Deep.DeepCutAuto
import Derived.Deep.RegionHeld3
namespace Go.Proofs.Ytdomngpkahgoiaa.StC
open Go.RowKit Rg Ti St
set_option linter.unusedVariables false
set_option linter.unusedSimpArgs false
/-- Three cells of a row set anew. -/
def set4 (W : World) (g i : Nat) (x : CeS) : World := ((W.setCell ⟨g, i * 3, none⟩ (.int .u32 (x.x : Nat))).setCell ⟨g, i * 3 + 1, none⟩ (.int .u32 (x.y : Nat))).setCell ⟨g, i * 3 + 2, none⟩ (.int .i64 x.l)
theorem flat_set : ∀ (l : List CeS) (i : Nat) (x : CeS), i < l.length → ((((l.flatMap CeS.cells).set (i * 3) (.int .u32 (x.x : Nat))).set (i * 3 + 1) (.int .u32 (x.y : Nat))).set (i * 3 + 2) (.int .i64 x.l)) = (l.set i x).flatMap CeS.cells
  | a :: l, 0, x, _ => by simp [List.flatMap_cons, CeS.cells]
  | a :: l, i + 1, x, h => by
    have ih := flat_set l i x (by simpa using h)
    rw [List.set_cons_succ, List.flatMap_cons, List.flatMap_cons, ← ih]
    have e : (i + 1) * 3 = i * 3 + 1 + 1 + 1 := by omega
    rw [e]
    simp only [CeS.cells, List.cons_append, List.nil_append, List.set_cons_succ]
theorem own_set4 {W : World} {base g n cap : Nat} {l : List CeS} (h : W.ownsRow base 32 3 (.slice (some ⟨g, 0, none⟩) n cap) n (l.flatMap CeS.cells)) (i : Nat) (hi : i < l.length) (x : CeS) :
    (set4 W g i x).ownsRow base 32 3 (.slice (some ⟨g, 0, none⟩) n cap) n ((l.set i x).flatMap CeS.cells) := by
  have h1 := (h.stored (i * 3) (.int .u32 (x.x : Nat))).1
  have h2 := (h1.stored (i * 3 + 1) (.int .u32 (x.y : Nat))).1
  have h3 := (h2.stored (i * 3 + 2) (.int .i64 x.l)).1
  rw [flat_set l i x hi] at h3
  exact h3
/-- Nothing but the row's block is another. -/
theorem fr_set4 (W : World) (g i : Nat) (x : CeS) : Fr (fun k => k = g) W (set4 W g i x) := by
  have s1 : ∀ (W : World) (j : Nat) (u : Value), Fr (fun k => k = g) W (W.setCell ⟨g, j, none⟩ u) := fun W j u =>
    ⟨rfl, rfl, rfl, by simp, fun k _ hk => heap_setCell_other W ⟨g, j, none⟩ k u (fun e => hk (by simp [e]))⟩
  exact ((s1 W _ _).trans (s1 _ _ _) (fun k _ h => h)).trans (s1 _ _ _) (fun k _ h => h)
/-- A cell's three cells, and nothing there is frozen. -/
theorem own_at4 {W : World} {base g n cap : Nat} {l : List CeS} (h : W.ownsRow base 32 3 (.slice (some ⟨g, 0, none⟩) n cap) n (l.flatMap CeS.cells)) (k : Nat) (hk : k < l.length) :
    (W.cell? ⟨g, k * 3, none⟩ = some (.int .u32 (l[k].x : Nat)) ∧ W.cell? ⟨g, k * 3 + 1, none⟩ = some (.int .u32 (l[k].y : Nat)) ∧ W.cell? ⟨g, k * 3 + 2, none⟩ = some (.int .i64 l[k].l)) ∧ ∀ j, W.frozen? ⟨g, j, none⟩ = false := by
  have hs := srd_own CeS.cells_len (by decide) h
  obtain ⟨_, o, e, _, ci⟩ := hs.get CeS.cells_len (by decide) hk
  cases e
  refine ⟨⟨?_, ?_, ?_⟩, ?_⟩
  · simpa [CeS.cells] using ci 0 (by decide)
  · simpa [CeS.cells] using ci 1 (by decide)
  · simpa [CeS.cells] using ci 2 (by decide)
  · obtain ⟨cs, hcs⟩ := own_typed h g rfl
    exact free_block hcs
end Go.Proofs.Ytdomngpkahgoiaa.StC
