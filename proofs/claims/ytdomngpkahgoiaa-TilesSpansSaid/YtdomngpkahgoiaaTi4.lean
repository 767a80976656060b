/- The walk over tiles.split; rows of cells. -/
import Derived.Test.YtdomngpkahgoiaaTi3
import Derived.Test.YtdomngpkahgoiaaCs9
import Derived.Lib.LazyBuf
namespace Go.Proofs.Ytdomngpkahgoiaa.Ti
open Go.RowKit Rg St Zw
set_option linter.unusedVariables false
set_option linter.unusedSimpArgs false
abbrev CRow (w : World) (v : Value) (l : List CeS) : Prop := SRd 3 CeS.cells w v l
theorem info_ce : (Try.prog.info? 32).map (fun i => (i.zero, i.size, i.bytes)) = some (some (.agg #[.int .u32 0, .int .u32 0, .int .i64 0]), 3, 16) := by kernel_rfl
theorem c_at {W : World} {A : Option Addr} {n c : Nat} {l : List CeS} (h : CRow W (.slice A n c) l) {k : Nat} (hk : k < l.length) :
    ∃ g o, A = some ⟨g, o, none⟩ ∧ (W.cell? ⟨g, o + k * 3, none⟩ = some (.int .u32 (l[k].x : Nat)) ∧ W.cell? ⟨g, o + k * 3 + 1, none⟩ = some (.int .u32 (l[k].y : Nat)) ∧ W.cell? ⟨g, o + k * 3 + 2, none⟩ = some (.int .i64 l[k].l)) := by
  obtain ⟨g, o, e, _, ci⟩ := SRd.get h CeS.cells_len (by decide) hk
  refine ⟨g, o, e, ?_, ?_, ?_⟩
  · simpa [CeS.cells] using ci 0 (by decide)
  · simpa [CeS.cells] using ci 1 (by decide)
  · simpa [CeS.cells] using ci 2 (by decide)
abbrev AtC (W : World) (g o k : Nat) (x : CeS) : Prop := W.cell? ⟨g, o + k * 3, none⟩ = some (.int .u32 (x.x : Nat)) ∧ W.cell? ⟨g, o + k * 3 + 1, none⟩ = some (.int .u32 (x.y : Nat)) ∧ W.cell? ⟨g, o + k * 3 + 2, none⟩ = some (.int .i64 x.l)
end Go.Proofs.Ytdomngpkahgoiaa.Ti
