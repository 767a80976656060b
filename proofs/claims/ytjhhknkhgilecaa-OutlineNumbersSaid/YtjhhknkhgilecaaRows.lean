/-
  No cell of these rows narrows 'for every input' (looked for: loops, veiled, ifaces, maps, wideKeys, modest, calm, conditions, laid).
  DERIVED. THE GIVEN ROWS OF THIS SEAT. 9 by the template 'for every input the law returns true; each argument reads behind the call as it read before'; 0 by the template 'total and deterministic' (their statements: YtjhhknkhgilecaaTotals.lean).
  GIVEN WITH THE SEED: the statements are not yours to turn. If you find one false, say at which input.
  Laid BY PROGRAM, IN A SANDBOX (cutbox-rows.mjs): the forced cells as the released guide's own fill.sh prints them over the translation 5eed3843d8b5fbe8… (all of the seat's roots in one cut). By AI agents, Wed Nov 11 2026. No macro, syntax, notation, axiom, sorry.
-/
import Derived.Test.YtjhhknkhgilecaaChecked
import GoSem.Claim
import GoSem.ClaimJoined
import GoSem.ClaimMapViews
import Derived.JoinedTies
import Derived.KernelRfl
namespace Go.Proofs.Ytjhhknkhgilecaa
/- THE CELL 'sum', in the pinned program and in every row, IS THE sha256 OF THE DUMP (.gsa) THAT YtjhhknkhgilecaaProg.lean LOADS. Nothing in Lean hashes anything: it is a label: what it is worth is what the hold of that sum in a sandbox is worth. -/
noncomputable def Try.pinned : Pinned := { name := "ytjhhknkhgilecaa", sum := "5eed3843d8b5fbe86d55c0f5daf9873a7e8d1638026966201ac6bd2568679d92", checked := Try.checked }
namespace Rows
def none {H : Type} : Left H := { results := [], args := [] }

/-- 'croftlaw12.SuperTells': WHATEVER THE INPUT: true; the input reads as it did. -/
def superTellsSpec : ChangeSpec := { name := "superTells", fn := fun _ => fun
  | [d1, d2] => { results := [.lit (.bool true)], args := [d1, d2] }
  | _ => none }
def superTellsRow : OpenClaim := { program := "ytjhhknkhgilecaa", sum := "5eed3843d8b5fbe86d55c0f5daf9873a7e8d1638026966201ac6bd2568679d92", func := "croft/croftlaw12.SuperTells", spec := "superTells", plainKeys := false, apart := false }
def SuperTellsSaid : Prop := superTellsRow.holds Try.pinned (OpenSpec.ofChange superTellsSpec)

/-- ITS FALSE NEIGHBOUR: 'it returns false'. Refute it at one input. -/
def superTellsWrong : ChangeSpec := { name := "superTells", fn := fun _ => fun
  | [d1, d2] => { results := [.lit (.bool false)], args := [d1, d2] }
  | _ => none }
def SuperTellsWrongFalsely : Prop := superTellsRow.holds Try.pinned (OpenSpec.ofChange superTellsWrong)

/-- 'croftlaw12.SuperWrong': WHATEVER THE INPUT: true; the input reads as it did. -/
def superWrongSpec : ChangeSpec := { name := "superWrong", fn := fun _ => fun
  | [d1, d2, d3] => { results := [.lit (.bool true)], args := [d1, d2, d3] }
  | _ => none }
def superWrongRow : OpenClaim := { program := "ytjhhknkhgilecaa", sum := "5eed3843d8b5fbe86d55c0f5daf9873a7e8d1638026966201ac6bd2568679d92", func := "croft/croftlaw12.SuperWrong", spec := "superWrong", plainKeys := false, apart := false }
def SuperWrongSaid : Prop := superWrongRow.holds Try.pinned (OpenSpec.ofChange superWrongSpec)

/-- ITS FALSE NEIGHBOUR: 'it returns false'. Refute it at one input. -/
def superWrongWrong : ChangeSpec := { name := "superWrong", fn := fun _ => fun
  | [d1, d2, d3] => { results := [.lit (.bool false)], args := [d1, d2, d3] }
  | _ => none }
def SuperWrongWrongFalsely : Prop := superWrongRow.holds Try.pinned (OpenSpec.ofChange superWrongWrong)

/-- 'croftlaw37.OutlineNumbers': WHATEVER THE INPUT: true; the input reads as it did. -/
def outlineNumbersSpec : ChangeSpec := { name := "outlineNumbers", fn := fun _ => fun
  | [d1, d2] => { results := [.lit (.bool true)], args := [d1, d2] }
  | _ => none }
def outlineNumbersRow : OpenClaim := { program := "ytjhhknkhgilecaa", sum := "5eed3843d8b5fbe86d55c0f5daf9873a7e8d1638026966201ac6bd2568679d92", func := "croft/croftlaw37.OutlineNumbers", spec := "outlineNumbers", inPlace := ["internal/abi.NoEscape", "internal/bytealg.MakeNoZero"], recurses := true, plainKeys := false, apart := false }
def OutlineNumbersSaid : Prop := outlineNumbersRow.holds Try.pinned (OpenSpec.ofChange outlineNumbersSpec)

/-- ITS FALSE NEIGHBOUR: 'it returns false'. Refute it at one input. -/
def outlineNumbersWrong : ChangeSpec := { name := "outlineNumbers", fn := fun _ => fun
  | [d1, d2] => { results := [.lit (.bool false)], args := [d1, d2] }
  | _ => none }
def OutlineNumbersWrongFalsely : Prop := outlineNumbersRow.holds Try.pinned (OpenSpec.ofChange outlineNumbersWrong)

/-- 'croftlaw13.MarkTells': WHATEVER THE INPUT: true; the input reads as it did. -/
def markTellsSpec : ChangeSpec := { name := "markTells", fn := fun _ => fun
  | [d] => { results := [.lit (.bool true)], args := [d] }
  | _ => none }
def markTellsRow : OpenClaim := { program := "ytjhhknkhgilecaa", sum := "5eed3843d8b5fbe86d55c0f5daf9873a7e8d1638026966201ac6bd2568679d92", func := "croft/croftlaw13.MarkTells", spec := "markTells", unfollowed := true, recurses := true, plainKeys := false, apart := false }
def MarkTellsSaid : Prop := markTellsRow.holds Try.pinned (OpenSpec.ofChange markTellsSpec)

/-- ITS FALSE NEIGHBOUR: 'it returns false'. Refute it at one input. -/
def markTellsWrong : ChangeSpec := { name := "markTells", fn := fun _ => fun
  | [d] => { results := [.lit (.bool false)], args := [d] }
  | _ => none }
def MarkTellsWrongFalsely : Prop := markTellsRow.holds Try.pinned (OpenSpec.ofChange markTellsWrong)

/-- 'croftlaw13.MarkMixed': WHATEVER THE INPUT: true; the input reads as it did. -/
def markMixedSpec : ChangeSpec := { name := "markMixed", fn := fun _ => fun
  | [d1, d2, d3] => { results := [.lit (.bool true)], args := [d1, d2, d3] }
  | _ => none }
def markMixedRow : OpenClaim := { program := "ytjhhknkhgilecaa", sum := "5eed3843d8b5fbe86d55c0f5daf9873a7e8d1638026966201ac6bd2568679d92", func := "croft/croftlaw13.MarkMixed", spec := "markMixed", unfollowed := true, recurses := true, plainKeys := false, apart := false }
def MarkMixedSaid : Prop := markMixedRow.holds Try.pinned (OpenSpec.ofChange markMixedSpec)

/-- ITS FALSE NEIGHBOUR: 'it returns false'. Refute it at one input. -/
def markMixedWrong : ChangeSpec := { name := "markMixed", fn := fun _ => fun
  | [d1, d2, d3] => { results := [.lit (.bool false)], args := [d1, d2, d3] }
  | _ => none }
def MarkMixedWrongFalsely : Prop := markMixedRow.holds Try.pinned (OpenSpec.ofChange markMixedWrong)

/-- 'croftlaw13.MarkReads': WHATEVER THE INPUT: true; the input reads as it did. -/
def markReadsSpec : ChangeSpec := { name := "markReads", fn := fun _ => fun
  | [d] => { results := [.lit (.bool true)], args := [d] }
  | _ => none }
def markReadsRow : OpenClaim := { program := "ytjhhknkhgilecaa", sum := "5eed3843d8b5fbe86d55c0f5daf9873a7e8d1638026966201ac6bd2568679d92", func := "croft/croftlaw13.MarkReads", spec := "markReads", unfollowed := true, recurses := true, plainKeys := false, apart := false }
def MarkReadsSaid : Prop := markReadsRow.holds Try.pinned (OpenSpec.ofChange markReadsSpec)

/-- ITS FALSE NEIGHBOUR: 'it returns false'. Refute it at one input. -/
def markReadsWrong : ChangeSpec := { name := "markReads", fn := fun _ => fun
  | [d] => { results := [.lit (.bool false)], args := [d] }
  | _ => none }
def MarkReadsWrongFalsely : Prop := markReadsRow.holds Try.pinned (OpenSpec.ofChange markReadsWrong)

/-- 'croftlaw43.BinsNobody': WHATEVER THE INPUT: true; the input reads as it did. -/
def binsNobodySpec : ChangeSpec := { name := "binsNobody", fn := fun _ => fun
  | [d1, d2, d3, d4] => { results := [.lit (.bool true)], args := [d1, d2, d3, d4] }
  | _ => none }
def binsNobodyRow : OpenClaim := { program := "ytjhhknkhgilecaa", sum := "5eed3843d8b5fbe86d55c0f5daf9873a7e8d1638026966201ac6bd2568679d92", func := "croft/croftlaw43.BinsNobody", spec := "binsNobody", unfollowed := true, recurses := true, plainKeys := false, apart := false }
def BinsNobodySaid : Prop := binsNobodyRow.holds Try.pinned (OpenSpec.ofChange binsNobodySpec)

/-- ITS FALSE NEIGHBOUR: 'it returns false'. Refute it at one input. -/
def binsNobodyWrong : ChangeSpec := { name := "binsNobody", fn := fun _ => fun
  | [d1, d2, d3, d4] => { results := [.lit (.bool false)], args := [d1, d2, d3, d4] }
  | _ => none }
def BinsNobodyWrongFalsely : Prop := binsNobodyRow.holds Try.pinned (OpenSpec.ofChange binsNobodyWrong)

/-- 'croftlaw43.BinsTells': WHATEVER THE INPUT: true; the input reads as it did. -/
def binsTellsSpec : ChangeSpec := { name := "binsTells", fn := fun _ => fun
  | [d1, d2, d3, d4, d5] => { results := [.lit (.bool true)], args := [d1, d2, d3, d4, d5] }
  | _ => none }
def binsTellsRow : OpenClaim := { program := "ytjhhknkhgilecaa", sum := "5eed3843d8b5fbe86d55c0f5daf9873a7e8d1638026966201ac6bd2568679d92", func := "croft/croftlaw43.BinsTells", spec := "binsTells", unfollowed := true, recurses := true, plainKeys := false, apart := false }
def BinsTellsSaid : Prop := binsTellsRow.holds Try.pinned (OpenSpec.ofChange binsTellsSpec)

/-- ITS FALSE NEIGHBOUR: 'it returns false'. Refute it at one input. -/
def binsTellsWrong : ChangeSpec := { name := "binsTells", fn := fun _ => fun
  | [d1, d2, d3, d4, d5] => { results := [.lit (.bool false)], args := [d1, d2, d3, d4, d5] }
  | _ => none }
def BinsTellsWrongFalsely : Prop := binsTellsRow.holds Try.pinned (OpenSpec.ofChange binsTellsWrong)

/-- 'croftlaw37.OutlineTells': WHATEVER THE INPUT: true; the input reads as it did. -/
def outlineTellsSpec : ChangeSpec := { name := "outlineTells", fn := fun _ => fun
  | [d] => { results := [.lit (.bool true)], args := [d] }
  | _ => none }
def outlineTellsRow : OpenClaim := { program := "ytjhhknkhgilecaa", sum := "5eed3843d8b5fbe86d55c0f5daf9873a7e8d1638026966201ac6bd2568679d92", func := "croft/croftlaw37.OutlineTells", spec := "outlineTells", inPlace := ["internal/abi.NoEscape", "internal/bytealg.MakeNoZero"], unfollowed := true, recurses := true, plainKeys := false, apart := false }
def OutlineTellsSaid : Prop := outlineTellsRow.holds Try.pinned (OpenSpec.ofChange outlineTellsSpec)

/-- ITS FALSE NEIGHBOUR: 'it returns false'. Refute it at one input. -/
def outlineTellsWrong : ChangeSpec := { name := "outlineTells", fn := fun _ => fun
  | [d] => { results := [.lit (.bool false)], args := [d] }
  | _ => none }
def OutlineTellsWrongFalsely : Prop := outlineTellsRow.holds Try.pinned (OpenSpec.ofChange outlineTellsWrong)

/- THE SECOND FORM. 'bulk': how many values and letters a reading holds, each counted each time it is reached (what is shared counts as often as it is met; a slice's spare places count too). A statement '..UptoSaid' is the law's where the arguments, and the package variables that the reading takes, are together of bulk at most 1048576: NARROWER than '..Said'. Prove '..Said' where nothing that the law and all that it calls make is longer than what came in: it says more and counts as full. Else prove '..UptoSaid'. A law counts once. -/
mutual
def uptoBulk {H : Type} : DataW H → Nat
  | .lit (.string bytes) => bytes.length + 1
  | .lit _ => 1
  | .nil => 1
  | .ptr d => uptoBulk d + 1
  | .slice elems spare => uptoBulkAll elems + uptoBulkAll spare + 1
  | .agg parts => uptoBulkAll parts + 1
  | .iface _ d => uptoBulk d + 1
  | .map entries => uptoBulkEntries entries + 1
  | .held _ => 1
def uptoBulkAll {H : Type} : List (DataW H) → Nat
  | [] => 0
  | d :: r => uptoBulk d + uptoBulkAll r
def uptoBulkEntries {H : Type} : List (Lit × DataW H) → Nat
  | [] => 0
  | x :: r => uptoBulkEntry x + uptoBulkEntries r
def uptoBulkEntry {H : Type} : Lit × DataW H → Nat
  | (.string bytes, d) => bytes.length + uptoBulk d + 1
  | (_, d) => uptoBulk d + 1
 end
def uptoSmall : (H : Type) → List (DataW H) → Bool := fun _ ds => decide (uptoBulkAll ds ≤ 1048576)
def OpenSpec.upto (s : _root_.Go.ChangeSpec) : _root_.Go.OpenSpec := { _root_.Go.OpenSpec.ofChange s with cond := some uptoSmall }

/-- 'croftlaw12.SuperTells', WHERE WHAT IT READS IS OF BULK AT MOST 1048576: true; the input reads as it did. -/
def superTellsUptoRow : OpenClaim := { program := "ytjhhknkhgilecaa", sum := "5eed3843d8b5fbe86d55c0f5daf9873a7e8d1638026966201ac6bd2568679d92", func := "croft/croftlaw12.SuperTells", spec := "superTells", plainKeys := false, apart := false, narrowed := true }
def SuperTellsUptoSaid : Prop := superTellsUptoRow.holds Try.pinned (OpenSpec.upto superTellsSpec)

/-- 'croftlaw12.SuperWrong', WHERE WHAT IT READS IS OF BULK AT MOST 1048576: true; the input reads as it did. -/
def superWrongUptoRow : OpenClaim := { program := "ytjhhknkhgilecaa", sum := "5eed3843d8b5fbe86d55c0f5daf9873a7e8d1638026966201ac6bd2568679d92", func := "croft/croftlaw12.SuperWrong", spec := "superWrong", plainKeys := false, apart := false, narrowed := true }
def SuperWrongUptoSaid : Prop := superWrongUptoRow.holds Try.pinned (OpenSpec.upto superWrongSpec)

/-- 'croftlaw37.OutlineNumbers', WHERE WHAT IT READS IS OF BULK AT MOST 1048576: true; the input reads as it did. -/
def outlineNumbersUptoRow : OpenClaim := { program := "ytjhhknkhgilecaa", sum := "5eed3843d8b5fbe86d55c0f5daf9873a7e8d1638026966201ac6bd2568679d92", func := "croft/croftlaw37.OutlineNumbers", spec := "outlineNumbers", inPlace := ["internal/abi.NoEscape", "internal/bytealg.MakeNoZero"], recurses := true, plainKeys := false, apart := false, narrowed := true }
def OutlineNumbersUptoSaid : Prop := outlineNumbersUptoRow.holds Try.pinned (OpenSpec.upto outlineNumbersSpec)

/-- 'croftlaw13.MarkTells', WHERE WHAT IT READS IS OF BULK AT MOST 1048576: true; the input reads as it did. -/
def markTellsUptoRow : OpenClaim := { program := "ytjhhknkhgilecaa", sum := "5eed3843d8b5fbe86d55c0f5daf9873a7e8d1638026966201ac6bd2568679d92", func := "croft/croftlaw13.MarkTells", spec := "markTells", unfollowed := true, recurses := true, plainKeys := false, apart := false, narrowed := true }
def MarkTellsUptoSaid : Prop := markTellsUptoRow.holds Try.pinned (OpenSpec.upto markTellsSpec)

/-- 'croftlaw13.MarkMixed', WHERE WHAT IT READS IS OF BULK AT MOST 1048576: true; the input reads as it did. -/
def markMixedUptoRow : OpenClaim := { program := "ytjhhknkhgilecaa", sum := "5eed3843d8b5fbe86d55c0f5daf9873a7e8d1638026966201ac6bd2568679d92", func := "croft/croftlaw13.MarkMixed", spec := "markMixed", unfollowed := true, recurses := true, plainKeys := false, apart := false, narrowed := true }
def MarkMixedUptoSaid : Prop := markMixedUptoRow.holds Try.pinned (OpenSpec.upto markMixedSpec)

/-- 'croftlaw13.MarkReads', WHERE WHAT IT READS IS OF BULK AT MOST 1048576: true; the input reads as it did. -/
def markReadsUptoRow : OpenClaim := { program := "ytjhhknkhgilecaa", sum := "5eed3843d8b5fbe86d55c0f5daf9873a7e8d1638026966201ac6bd2568679d92", func := "croft/croftlaw13.MarkReads", spec := "markReads", unfollowed := true, recurses := true, plainKeys := false, apart := false, narrowed := true }
def MarkReadsUptoSaid : Prop := markReadsUptoRow.holds Try.pinned (OpenSpec.upto markReadsSpec)

/-- 'croftlaw43.BinsNobody', WHERE WHAT IT READS IS OF BULK AT MOST 1048576: true; the input reads as it did. -/
def binsNobodyUptoRow : OpenClaim := { program := "ytjhhknkhgilecaa", sum := "5eed3843d8b5fbe86d55c0f5daf9873a7e8d1638026966201ac6bd2568679d92", func := "croft/croftlaw43.BinsNobody", spec := "binsNobody", unfollowed := true, recurses := true, plainKeys := false, apart := false, narrowed := true }
def BinsNobodyUptoSaid : Prop := binsNobodyUptoRow.holds Try.pinned (OpenSpec.upto binsNobodySpec)

/-- 'croftlaw43.BinsTells', WHERE WHAT IT READS IS OF BULK AT MOST 1048576: true; the input reads as it did. -/
def binsTellsUptoRow : OpenClaim := { program := "ytjhhknkhgilecaa", sum := "5eed3843d8b5fbe86d55c0f5daf9873a7e8d1638026966201ac6bd2568679d92", func := "croft/croftlaw43.BinsTells", spec := "binsTells", unfollowed := true, recurses := true, plainKeys := false, apart := false, narrowed := true }
def BinsTellsUptoSaid : Prop := binsTellsUptoRow.holds Try.pinned (OpenSpec.upto binsTellsSpec)

/-- 'croftlaw37.OutlineTells', WHERE WHAT IT READS IS OF BULK AT MOST 1048576: true; the input reads as it did. -/
def outlineTellsUptoRow : OpenClaim := { program := "ytjhhknkhgilecaa", sum := "5eed3843d8b5fbe86d55c0f5daf9873a7e8d1638026966201ac6bd2568679d92", func := "croft/croftlaw37.OutlineTells", spec := "outlineTells", inPlace := ["internal/abi.NoEscape", "internal/bytealg.MakeNoZero"], unfollowed := true, recurses := true, plainKeys := false, apart := false, narrowed := true }
def OutlineTellsUptoSaid : Prop := outlineTellsUptoRow.holds Try.pinned (OpenSpec.upto outlineTellsSpec)

end Rows
end Go.Proofs.Ytjhhknkhgilecaa
