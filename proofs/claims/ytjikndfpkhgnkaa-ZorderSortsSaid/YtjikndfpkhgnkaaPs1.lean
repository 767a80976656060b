/- The walks over point.Less, point.Find; points read in parts. -/
import Derived.Test.YtjikndfpkhgnkaaPtEq
import Derived.Test.YtjikndfpkhgnkaaPtSort
import Derived.Test.YtjikndfpkhgnkaaSt10
namespace Go.Proofs.Ytjikndfpkhgnkaa.St
open Go.RowKit Rg Pt
set_option linter.unusedVariables false
set_option linter.unusedSimpArgs false
theorem prow_parts {W : World} {A : Option Addr} {n c : Nat} {own : List PtS} (h : PRow W (.slice A n c) own) {k : Nat} (hk : k ≤ own.length) :
    Rd W A ((own.take k).flatMap PtS.cells) ∧ Rd W (if c = k then A else Option.map (fun x => x.add (k * 4)) A) ((own.drop k).flatMap PtS.cells) := by
  have hl := SRd.len h
  obtain ⟨A1, c1, e1, _, h1⟩ := SRd.take h PtS.cells_len hk c (by omega)
  obtain ⟨A2, c2, e2, _, h2⟩ := SRd.drop h PtS.cells_len hk c (by omega)
  injection e1 with e1 _ _
  injection e2 with e2 _ _
  subst e1 e2
  refine ⟨h1, ?_⟩
  split
  · rw [List.drop_of_length_le (by omega)]; exact Rd.nil _ _
  · exact h2
theorem rd_grown {W W' : World} {A : Option Addr} {xs : List Value} {r : Option Nat} (h : Rd W A xs) (hg : W.grownBy W' r) (hn : ∀ ad, A = some ad → r ≠ some ad.block) : Rd W' A xs :=
  h.fr ((Fr.refl (fun k => r = some k) W).grown hg (fun k e _ => e)) hn
end Go.Proofs.Ytjikndfpkhgnkaa.St
