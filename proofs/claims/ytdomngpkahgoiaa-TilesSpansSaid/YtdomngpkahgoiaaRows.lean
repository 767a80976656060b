/-
  No cell of these rows narrows 'for every input' (looked for: loops, veiled, ifaces, maps, wideKeys, modest, calm, conditions, laid).
  DERIVED. THE GIVEN ROWS OF THIS SEAT. 6 by the template 'for every input the law returns true; each argument reads behind the call as it read before'; 0 by the template 'total and deterministic' (their statements: YtdomngpkahgoiaaTotals.lean).
  GIVEN WITH THE SEED: the statements are not yours to turn. If you find one false, say at which input.
  Laid BY PROGRAM, IN A SANDBOX (cutbox-rows.mjs): the forced cells as the released guide's own fill.sh prints them over the translation eb7a10252173d7d1… (all of the seat's roots in one cut). By AI agents, Wed Nov 11 2026. No macro, syntax, notation, axiom, sorry.
-/
import Derived.Test.YtdomngpkahgoiaaChecked
import GoSem.Claim
import GoSem.ClaimJoined
import GoSem.ClaimMapViews
import Derived.JoinedTies
import Derived.KernelRfl
namespace Go.Proofs.Ytdomngpkahgoiaa
/- THE CELL 'sum', in the pinned program and in every row, IS THE sha256 OF THE DUMP (.gsa) THAT YtdomngpkahgoiaaProg.lean LOADS. Nothing in Lean hashes anything: it is a label: what it is worth is what the hold of that sum in a sandbox is worth. -/
noncomputable def Try.pinned : Pinned := { name := "ytdomngpkahgoiaa", sum := "eb7a10252173d7d1d60c0949ec063d80ec372186cb37f5903d6f6a74b7037e72", checked := Try.checked }
namespace Rows
def none {H : Type} : Left H := { results := [], args := [] }

/-- 'croftlaw41.TilesStops': WHATEVER THE INPUT: true; the input reads as it did. -/
def tilesStopsSpec : ChangeSpec := { name := "tilesStops", fn := fun _ => fun
  | [d1, d2] => { results := [.lit (.bool true)], args := [d1, d2] }
  | _ => none }
def tilesStopsRow : OpenClaim := { program := "ytdomngpkahgoiaa", sum := "eb7a10252173d7d1d60c0949ec063d80ec372186cb37f5903d6f6a74b7037e72", func := "croft/croftlaw41.TilesStops", spec := "tilesStops", unfollowed := true, recurses := true, apart := false }
def TilesStopsSaid : Prop := tilesStopsRow.holds Try.pinned (OpenSpec.ofChange tilesStopsSpec)

/-- ITS FALSE NEIGHBOUR: 'it returns false'. Refute it at one input. -/
def tilesStopsWrong : ChangeSpec := { name := "tilesStops", fn := fun _ => fun
  | [d1, d2] => { results := [.lit (.bool false)], args := [d1, d2] }
  | _ => none }
def TilesStopsWrongFalsely : Prop := tilesStopsRow.holds Try.pinned (OpenSpec.ofChange tilesStopsWrong)

/-- 'croftlaw41.TilesWhole': WHATEVER THE INPUT: true; the input reads as it did. -/
def tilesWholeSpec : ChangeSpec := { name := "tilesWhole", fn := fun _ => fun
  | [d1, d2] => { results := [.lit (.bool true)], args := [d1, d2] }
  | _ => none }
def tilesWholeRow : OpenClaim := { program := "ytdomngpkahgoiaa", sum := "eb7a10252173d7d1d60c0949ec063d80ec372186cb37f5903d6f6a74b7037e72", func := "croft/croftlaw41.TilesWhole", spec := "tilesWhole", unfollowed := true, recurses := true, apart := false }
def TilesWholeSaid : Prop := tilesWholeRow.holds Try.pinned (OpenSpec.ofChange tilesWholeSpec)

/-- ITS FALSE NEIGHBOUR: 'it returns false'. Refute it at one input. -/
def tilesWholeWrong : ChangeSpec := { name := "tilesWhole", fn := fun _ => fun
  | [d1, d2] => { results := [.lit (.bool false)], args := [d1, d2] }
  | _ => none }
def TilesWholeWrongFalsely : Prop := tilesWholeRow.holds Try.pinned (OpenSpec.ofChange tilesWholeWrong)

/-- 'croftlaw41.TilesSpans': WHATEVER THE INPUT: true; the input reads as it did. -/
def tilesSpansSpec : ChangeSpec := { name := "tilesSpans", fn := fun _ => fun
  | [d1, d2, d3] => { results := [.lit (.bool true)], args := [d1, d2, d3] }
  | _ => none }
def tilesSpansRow : OpenClaim := { program := "ytdomngpkahgoiaa", sum := "eb7a10252173d7d1d60c0949ec063d80ec372186cb37f5903d6f6a74b7037e72", func := "croft/croftlaw41.TilesSpans", spec := "tilesSpans", unfollowed := true, recurses := true, apart := false }
def TilesSpansSaid : Prop := tilesSpansRow.holds Try.pinned (OpenSpec.ofChange tilesSpansSpec)

/-- ITS FALSE NEIGHBOUR: 'it returns false'. Refute it at one input. -/
def tilesSpansWrong : ChangeSpec := { name := "tilesSpans", fn := fun _ => fun
  | [d1, d2, d3] => { results := [.lit (.bool false)], args := [d1, d2, d3] }
  | _ => none }
def TilesSpansWrongFalsely : Prop := tilesSpansRow.holds Try.pinned (OpenSpec.ofChange tilesSpansWrong)

/-- 'croftlaw41.TilesCover': WHATEVER THE INPUT: true; the input reads as it did. -/
def tilesCoverSpec : ChangeSpec := { name := "tilesCover", fn := fun _ => fun
  | [d1, d2, d3, d4] => { results := [.lit (.bool true)], args := [d1, d2, d3, d4] }
  | _ => none }
def tilesCoverRow : OpenClaim := { program := "ytdomngpkahgoiaa", sum := "eb7a10252173d7d1d60c0949ec063d80ec372186cb37f5903d6f6a74b7037e72", func := "croft/croftlaw41.TilesCover", spec := "tilesCover", unfollowed := true, recurses := true, apart := false }
def TilesCoverSaid : Prop := tilesCoverRow.holds Try.pinned (OpenSpec.ofChange tilesCoverSpec)

/-- ITS FALSE NEIGHBOUR: 'it returns false'. Refute it at one input. -/
def tilesCoverWrong : ChangeSpec := { name := "tilesCover", fn := fun _ => fun
  | [d1, d2, d3, d4] => { results := [.lit (.bool false)], args := [d1, d2, d3, d4] }
  | _ => none }
def TilesCoverWrongFalsely : Prop := tilesCoverRow.holds Try.pinned (OpenSpec.ofChange tilesCoverWrong)

/-- 'croftlaw29.ModelRuns': WHATEVER THE INPUT: true; the input reads as it did. -/
def modelRunsSpec : ChangeSpec := { name := "modelRuns", fn := fun _ => fun
  | [d1, d2, d3, d4, d5, d6] => { results := [.lit (.bool true)], args := [d1, d2, d3, d4, d5, d6] }
  | _ => none }
def modelRunsRow : OpenClaim := { program := "ytdomngpkahgoiaa", sum := "eb7a10252173d7d1d60c0949ec063d80ec372186cb37f5903d6f6a74b7037e72", func := "croft/croftlaw29.ModelRuns", spec := "modelRuns", inPlace := ["math/bits.Add64"], unfollowed := true, recurses := true, apart := false }
def ModelRunsSaid : Prop := modelRunsRow.holds Try.pinned (OpenSpec.ofChange modelRunsSpec)

/-- ITS FALSE NEIGHBOUR: 'it returns false'. Refute it at one input. -/
def modelRunsWrong : ChangeSpec := { name := "modelRuns", fn := fun _ => fun
  | [d1, d2, d3, d4, d5, d6] => { results := [.lit (.bool false)], args := [d1, d2, d3, d4, d5, d6] }
  | _ => none }
def ModelRunsWrongFalsely : Prop := modelRunsRow.holds Try.pinned (OpenSpec.ofChange modelRunsWrong)

/-- 'croftlaw29.ModelNobody': WHATEVER THE INPUT: true; the input reads as it did. -/
def modelNobodySpec : ChangeSpec := { name := "modelNobody", fn := fun _ => fun
  | [d1, d2, d3] => { results := [.lit (.bool true)], args := [d1, d2, d3] }
  | _ => none }
def modelNobodyRow : OpenClaim := { program := "ytdomngpkahgoiaa", sum := "eb7a10252173d7d1d60c0949ec063d80ec372186cb37f5903d6f6a74b7037e72", func := "croft/croftlaw29.ModelNobody", spec := "modelNobody", inPlace := ["math/bits.Add64"], unfollowed := true, recurses := true, apart := false }
def ModelNobodySaid : Prop := modelNobodyRow.holds Try.pinned (OpenSpec.ofChange modelNobodySpec)

/-- ITS FALSE NEIGHBOUR: 'it returns false'. Refute it at one input. -/
def modelNobodyWrong : ChangeSpec := { name := "modelNobody", fn := fun _ => fun
  | [d1, d2, d3] => { results := [.lit (.bool false)], args := [d1, d2, d3] }
  | _ => none }
def ModelNobodyWrongFalsely : Prop := modelNobodyRow.holds Try.pinned (OpenSpec.ofChange modelNobodyWrong)

/- THE SECOND FORM. 'bulk': how many values and letters a reading holds, each counted each time it is reached (what is shared counts as often as it is met; a slice's spare places count too). A statement '..UptoSaid' is the law's where the arguments, and the package variables that the reading takes, are together of bulk at most 1048576: NARROWER than '..Said'. Prove '..Said' where nothing that the law and all that it calls make is longer than what came in: it says more and counts as full. Else prove '..UptoSaid'. A law counts once. -/
mutual
def uptoBulk {H : Type} : DataW H → Nat
  | .lit (.string bytes) => bytes.length + 1
  | .lit _ => 1
  | .nil => 1
  | .ptr d => uptoBulk d + 1
  | .slice elems spare => uptoBulkAll elems + uptoBulkAll spare + 1
  | .agg parts => uptoBulkAll parts + 1
  | .iface _ d => uptoBulk d + 1
  | .map entries => uptoBulkEntries entries + 1
  | .held _ => 1
def uptoBulkAll {H : Type} : List (DataW H) → Nat
  | [] => 0
  | d :: r => uptoBulk d + uptoBulkAll r
def uptoBulkEntries {H : Type} : List (Lit × DataW H) → Nat
  | [] => 0
  | x :: r => uptoBulkEntry x + uptoBulkEntries r
def uptoBulkEntry {H : Type} : Lit × DataW H → Nat
  | (.string bytes, d) => bytes.length + uptoBulk d + 1
  | (_, d) => uptoBulk d + 1
 end
def uptoSmall : (H : Type) → List (DataW H) → Bool := fun _ ds => decide (uptoBulkAll ds ≤ 1048576)
def OpenSpec.upto (s : _root_.Go.ChangeSpec) : _root_.Go.OpenSpec := { _root_.Go.OpenSpec.ofChange s with cond := some uptoSmall }

/-- 'croftlaw41.TilesStops', WHERE WHAT IT READS IS OF BULK AT MOST 1048576: true; the input reads as it did. -/
def tilesStopsUptoRow : OpenClaim := { program := "ytdomngpkahgoiaa", sum := "eb7a10252173d7d1d60c0949ec063d80ec372186cb37f5903d6f6a74b7037e72", func := "croft/croftlaw41.TilesStops", spec := "tilesStops", unfollowed := true, recurses := true, apart := false, narrowed := true }
def TilesStopsUptoSaid : Prop := tilesStopsUptoRow.holds Try.pinned (OpenSpec.upto tilesStopsSpec)

/-- 'croftlaw41.TilesWhole', WHERE WHAT IT READS IS OF BULK AT MOST 1048576: true; the input reads as it did. -/
def tilesWholeUptoRow : OpenClaim := { program := "ytdomngpkahgoiaa", sum := "eb7a10252173d7d1d60c0949ec063d80ec372186cb37f5903d6f6a74b7037e72", func := "croft/croftlaw41.TilesWhole", spec := "tilesWhole", unfollowed := true, recurses := true, apart := false, narrowed := true }
def TilesWholeUptoSaid : Prop := tilesWholeUptoRow.holds Try.pinned (OpenSpec.upto tilesWholeSpec)

/-- 'croftlaw41.TilesSpans', WHERE WHAT IT READS IS OF BULK AT MOST 1048576: true; the input reads as it did. -/
def tilesSpansUptoRow : OpenClaim := { program := "ytdomngpkahgoiaa", sum := "eb7a10252173d7d1d60c0949ec063d80ec372186cb37f5903d6f6a74b7037e72", func := "croft/croftlaw41.TilesSpans", spec := "tilesSpans", unfollowed := true, recurses := true, apart := false, narrowed := true }
def TilesSpansUptoSaid : Prop := tilesSpansUptoRow.holds Try.pinned (OpenSpec.upto tilesSpansSpec)

/-- 'croftlaw41.TilesCover', WHERE WHAT IT READS IS OF BULK AT MOST 1048576: true; the input reads as it did. -/
def tilesCoverUptoRow : OpenClaim := { program := "ytdomngpkahgoiaa", sum := "eb7a10252173d7d1d60c0949ec063d80ec372186cb37f5903d6f6a74b7037e72", func := "croft/croftlaw41.TilesCover", spec := "tilesCover", unfollowed := true, recurses := true, apart := false, narrowed := true }
def TilesCoverUptoSaid : Prop := tilesCoverUptoRow.holds Try.pinned (OpenSpec.upto tilesCoverSpec)

/-- 'croftlaw29.ModelRuns', WHERE WHAT IT READS IS OF BULK AT MOST 1048576: true; the input reads as it did. -/
def modelRunsUptoRow : OpenClaim := { program := "ytdomngpkahgoiaa", sum := "eb7a10252173d7d1d60c0949ec063d80ec372186cb37f5903d6f6a74b7037e72", func := "croft/croftlaw29.ModelRuns", spec := "modelRuns", inPlace := ["math/bits.Add64"], unfollowed := true, recurses := true, apart := false, narrowed := true }
def ModelRunsUptoSaid : Prop := modelRunsUptoRow.holds Try.pinned (OpenSpec.upto modelRunsSpec)

/-- 'croftlaw29.ModelNobody', WHERE WHAT IT READS IS OF BULK AT MOST 1048576: true; the input reads as it did. -/
def modelNobodyUptoRow : OpenClaim := { program := "ytdomngpkahgoiaa", sum := "eb7a10252173d7d1d60c0949ec063d80ec372186cb37f5903d6f6a74b7037e72", func := "croft/croftlaw29.ModelNobody", spec := "modelNobody", inPlace := ["math/bits.Add64"], unfollowed := true, recurses := true, apart := false, narrowed := true }
def ModelNobodyUptoSaid : Prop := modelNobodyUptoRow.holds Try.pinned (OpenSpec.upto modelNobodySpec)

end Rows
end Go.Proofs.Ytdomngpkahgoiaa
