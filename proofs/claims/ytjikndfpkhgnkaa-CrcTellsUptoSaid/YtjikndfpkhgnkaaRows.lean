/-
  No cell of these rows narrows 'for every input' (looked for: loops, veiled, ifaces, maps, wideKeys, modest, calm, conditions, laid).
  DERIVED. THE GIVEN ROWS OF THIS SEAT. 11 by the template 'for every input the law returns true; each argument reads behind the call as it read before'; 0 by the template 'total and deterministic' (their statements: YtjikndfpkhgnkaaTotals.lean).
  GIVEN WITH THE SEED: the statements are not yours to turn. If you find one false, say at which input.
  Laid BY PROGRAM, IN A SANDBOX (cutbox-rows.mjs): the forced cells as the released guide's own fill.sh prints them over the translation 3bdaaad57671a477… (all of the seat's roots in one cut). By AI agents, Wed Nov 11 2026. No macro, syntax, notation, axiom, sorry.
-/
import Derived.Test.YtjikndfpkhgnkaaChecked
import GoSem.Claim
import GoSem.ClaimJoined
import GoSem.ClaimMapViews
import Derived.JoinedTies
import Derived.KernelRfl
namespace Go.Proofs.Ytjikndfpkhgnkaa
/- THE CELL 'sum', in the pinned program and in every row, IS THE sha256 OF THE DUMP (.gsa) THAT YtjikndfpkhgnkaaProg.lean LOADS. Nothing in Lean hashes anything: it is a label: what it is worth is what the hold of that sum in a sandbox is worth. -/
noncomputable def Try.pinned : Pinned := { name := "ytjikndfpkhgnkaa", sum := "3bdaaad57671a47751778464e59ea25ca3a967ef2566cc5c28bd2a8e432c90f4", checked := Try.checked }
namespace Rows
def none {H : Type} : Left H := { results := [], args := [] }

/-- 'croftlaw17.NmapTells': WHATEVER THE INPUT: true; the input reads as it did. -/
def nmapTellsSpec : ChangeSpec := { name := "nmapTells", fn := fun _ => fun
  | [d1, d2, d3] => { results := [.lit (.bool true)], args := [d1, d2, d3] }
  | _ => none }
def nmapTellsRow : OpenClaim := { program := "ytjikndfpkhgnkaa", sum := "3bdaaad57671a47751778464e59ea25ca3a967ef2566cc5c28bd2a8e432c90f4", func := "croft/croftlaw17.NmapTells", spec := "nmapTells", apart := false }
def NmapTellsSaid : Prop := nmapTellsRow.holds Try.pinned (OpenSpec.ofChange nmapTellsSpec)

/-- ITS FALSE NEIGHBOUR: 'it returns false'. Refute it at one input. -/
def nmapTellsWrong : ChangeSpec := { name := "nmapTells", fn := fun _ => fun
  | [d1, d2, d3] => { results := [.lit (.bool false)], args := [d1, d2, d3] }
  | _ => none }
def NmapTellsWrongFalsely : Prop := nmapTellsRow.holds Try.pinned (OpenSpec.ofChange nmapTellsWrong)

/-- 'croftlaw05.ZorderTells': WHATEVER THE INPUT: true; the input reads as it did. -/
def zorderTellsSpec : ChangeSpec := { name := "zorderTells", fn := fun _ => fun
  | [d1, d2, d3, d4] => { results := [.lit (.bool true)], args := [d1, d2, d3, d4] }
  | _ => none }
def zorderTellsRow : OpenClaim := { program := "ytjikndfpkhgnkaa", sum := "3bdaaad57671a47751778464e59ea25ca3a967ef2566cc5c28bd2a8e432c90f4", func := "croft/croftlaw05.ZorderTells", spec := "zorderTells", apart := false }
def ZorderTellsSaid : Prop := zorderTellsRow.holds Try.pinned (OpenSpec.ofChange zorderTellsSpec)

/-- ITS FALSE NEIGHBOUR: 'it returns false'. Refute it at one input. -/
def zorderTellsWrong : ChangeSpec := { name := "zorderTells", fn := fun _ => fun
  | [d1, d2, d3, d4] => { results := [.lit (.bool false)], args := [d1, d2, d3, d4] }
  | _ => none }
def ZorderTellsWrongFalsely : Prop := zorderTellsRow.holds Try.pinned (OpenSpec.ofChange zorderTellsWrong)

/-- 'croftlaw05.ZorderRows': WHATEVER THE INPUT: true; the input reads as it did. -/
def zorderRowsSpec : ChangeSpec := { name := "zorderRows", fn := fun _ => fun
  | [d1, d2, d3, d4, d5] => { results := [.lit (.bool true)], args := [d1, d2, d3, d4, d5] }
  | _ => none }
def zorderRowsRow : OpenClaim := { program := "ytjikndfpkhgnkaa", sum := "3bdaaad57671a47751778464e59ea25ca3a967ef2566cc5c28bd2a8e432c90f4", func := "croft/croftlaw05.ZorderRows", spec := "zorderRows", apart := false }
def ZorderRowsSaid : Prop := zorderRowsRow.holds Try.pinned (OpenSpec.ofChange zorderRowsSpec)

/-- ITS FALSE NEIGHBOUR: 'it returns false'. Refute it at one input. -/
def zorderRowsWrong : ChangeSpec := { name := "zorderRows", fn := fun _ => fun
  | [d1, d2, d3, d4, d5] => { results := [.lit (.bool false)], args := [d1, d2, d3, d4, d5] }
  | _ => none }
def ZorderRowsWrongFalsely : Prop := zorderRowsRow.holds Try.pinned (OpenSpec.ofChange zorderRowsWrong)

/-- 'croftlaw01.LittleWrites': WHATEVER THE INPUT: true; the input reads as it did. -/
def littleWritesSpec : ChangeSpec := { name := "littleWrites", fn := fun _ => fun
  | [d1, d2] => { results := [.lit (.bool true)], args := [d1, d2] }
  | _ => none }
def littleWritesRow : OpenClaim := { program := "ytjikndfpkhgnkaa", sum := "3bdaaad57671a47751778464e59ea25ca3a967ef2566cc5c28bd2a8e432c90f4", func := "croft/croftlaw01.LittleWrites", spec := "littleWrites", apart := false }
def LittleWritesSaid : Prop := littleWritesRow.holds Try.pinned (OpenSpec.ofChange littleWritesSpec)

/-- ITS FALSE NEIGHBOUR: 'it returns false'. Refute it at one input. -/
def littleWritesWrong : ChangeSpec := { name := "littleWrites", fn := fun _ => fun
  | [d1, d2] => { results := [.lit (.bool false)], args := [d1, d2] }
  | _ => none }
def LittleWritesWrongFalsely : Prop := littleWritesRow.holds Try.pinned (OpenSpec.ofChange littleWritesWrong)

/-- 'croftlaw02.CrcTells': WHATEVER THE INPUT: true; the input reads as it did. -/
def crcTellsSpec : ChangeSpec := { name := "crcTells", fn := fun _ => fun
  | [d1, d2, d3] => { results := [.lit (.bool true)], args := [d1, d2, d3] }
  | _ => none }
def crcTellsRow : OpenClaim := { program := "ytjikndfpkhgnkaa", sum := "3bdaaad57671a47751778464e59ea25ca3a967ef2566cc5c28bd2a8e432c90f4", func := "croft/croftlaw02.CrcTells", spec := "crcTells", apart := false }
def CrcTellsSaid : Prop := crcTellsRow.holds Try.pinned (OpenSpec.ofChange crcTellsSpec)

/-- ITS FALSE NEIGHBOUR: 'it returns false'. Refute it at one input. -/
def crcTellsWrong : ChangeSpec := { name := "crcTells", fn := fun _ => fun
  | [d1, d2, d3] => { results := [.lit (.bool false)], args := [d1, d2, d3] }
  | _ => none }
def CrcTellsWrongFalsely : Prop := crcTellsRow.holds Try.pinned (OpenSpec.ofChange crcTellsWrong)

/-- 'croftlaw02.CrcTables': WHATEVER THE INPUT: true; the input reads as it did. -/
def crcTablesSpec : ChangeSpec := { name := "crcTables", fn := fun _ => fun
  | [d1, d2] => { results := [.lit (.bool true)], args := [d1, d2] }
  | _ => none }
def crcTablesRow : OpenClaim := { program := "ytjikndfpkhgnkaa", sum := "3bdaaad57671a47751778464e59ea25ca3a967ef2566cc5c28bd2a8e432c90f4", func := "croft/croftlaw02.CrcTables", spec := "crcTables", apart := false }
def CrcTablesSaid : Prop := crcTablesRow.holds Try.pinned (OpenSpec.ofChange crcTablesSpec)

/-- ITS FALSE NEIGHBOUR: 'it returns false'. Refute it at one input. -/
def crcTablesWrong : ChangeSpec := { name := "crcTables", fn := fun _ => fun
  | [d1, d2] => { results := [.lit (.bool false)], args := [d1, d2] }
  | _ => none }
def CrcTablesWrongFalsely : Prop := crcTablesRow.holds Try.pinned (OpenSpec.ofChange crcTablesWrong)

/-- 'croftlaw17.NmapApplies': WHATEVER THE INPUT: true; the input reads as it did. -/
def nmapAppliesSpec : ChangeSpec := { name := "nmapApplies", fn := fun _ => fun
  | [d1, d2, d3] => { results := [.lit (.bool true)], args := [d1, d2, d3] }
  | _ => none }
def nmapAppliesRow : OpenClaim := { program := "ytjikndfpkhgnkaa", sum := "3bdaaad57671a47751778464e59ea25ca3a967ef2566cc5c28bd2a8e432c90f4", func := "croft/croftlaw17.NmapApplies", spec := "nmapApplies", unfollowed := true, recurses := true, apart := false }
def NmapAppliesSaid : Prop := nmapAppliesRow.holds Try.pinned (OpenSpec.ofChange nmapAppliesSpec)

/-- ITS FALSE NEIGHBOUR: 'it returns false'. Refute it at one input. -/
def nmapAppliesWrong : ChangeSpec := { name := "nmapApplies", fn := fun _ => fun
  | [d1, d2, d3] => { results := [.lit (.bool false)], args := [d1, d2, d3] }
  | _ => none }
def NmapAppliesWrongFalsely : Prop := nmapAppliesRow.holds Try.pinned (OpenSpec.ofChange nmapAppliesWrong)

/-- 'croftlaw17.NmapGone': WHATEVER THE INPUT: true; the input reads as it did. -/
def nmapGoneSpec : ChangeSpec := { name := "nmapGone", fn := fun _ => fun
  | [d] => { results := [.lit (.bool true)], args := [d] }
  | _ => none }
def nmapGoneRow : OpenClaim := { program := "ytjikndfpkhgnkaa", sum := "3bdaaad57671a47751778464e59ea25ca3a967ef2566cc5c28bd2a8e432c90f4", func := "croft/croftlaw17.NmapGone", spec := "nmapGone", unfollowed := true, recurses := true, apart := false }
def NmapGoneSaid : Prop := nmapGoneRow.holds Try.pinned (OpenSpec.ofChange nmapGoneSpec)

/-- ITS FALSE NEIGHBOUR: 'it returns false'. Refute it at one input. -/
def nmapGoneWrong : ChangeSpec := { name := "nmapGone", fn := fun _ => fun
  | [d] => { results := [.lit (.bool false)], args := [d] }
  | _ => none }
def NmapGoneWrongFalsely : Prop := nmapGoneRow.holds Try.pinned (OpenSpec.ofChange nmapGoneWrong)

/-- 'croftlaw01.LittleReads': WHATEVER THE INPUT: true; the input reads as it did. -/
def littleReadsSpec : ChangeSpec := { name := "littleReads", fn := fun _ => fun
  | [d1, d2] => { results := [.lit (.bool true)], args := [d1, d2] }
  | _ => none }
def littleReadsRow : OpenClaim := { program := "ytjikndfpkhgnkaa", sum := "3bdaaad57671a47751778464e59ea25ca3a967ef2566cc5c28bd2a8e432c90f4", func := "croft/croftlaw01.LittleReads", spec := "littleReads", apart := false }
def LittleReadsSaid : Prop := littleReadsRow.holds Try.pinned (OpenSpec.ofChange littleReadsSpec)

/-- ITS FALSE NEIGHBOUR: 'it returns false'. Refute it at one input. -/
def littleReadsWrong : ChangeSpec := { name := "littleReads", fn := fun _ => fun
  | [d1, d2] => { results := [.lit (.bool false)], args := [d1, d2] }
  | _ => none }
def LittleReadsWrongFalsely : Prop := littleReadsRow.holds Try.pinned (OpenSpec.ofChange littleReadsWrong)

/-- 'croftlaw01.LittleNobody': WHATEVER THE INPUT: true; the input reads as it did. -/
def littleNobodySpec : ChangeSpec := { name := "littleNobody", fn := fun _ => fun
  | [d1, d2] => { results := [.lit (.bool true)], args := [d1, d2] }
  | _ => none }
def littleNobodyRow : OpenClaim := { program := "ytjikndfpkhgnkaa", sum := "3bdaaad57671a47751778464e59ea25ca3a967ef2566cc5c28bd2a8e432c90f4", func := "croft/croftlaw01.LittleNobody", spec := "littleNobody", apart := false }
def LittleNobodySaid : Prop := littleNobodyRow.holds Try.pinned (OpenSpec.ofChange littleNobodySpec)

/-- ITS FALSE NEIGHBOUR: 'it returns false'. Refute it at one input. -/
def littleNobodyWrong : ChangeSpec := { name := "littleNobody", fn := fun _ => fun
  | [d1, d2] => { results := [.lit (.bool false)], args := [d1, d2] }
  | _ => none }
def LittleNobodyWrongFalsely : Prop := littleNobodyRow.holds Try.pinned (OpenSpec.ofChange littleNobodyWrong)

/-- 'croftlaw05.ZorderSorts': WHATEVER THE INPUT: true; the input reads as it did. -/
def zorderSortsSpec : ChangeSpec := { name := "zorderSorts", fn := fun _ => fun
  | [d1, d2] => { results := [.lit (.bool true)], args := [d1, d2] }
  | _ => none }
def zorderSortsRow : OpenClaim := { program := "ytjikndfpkhgnkaa", sum := "3bdaaad57671a47751778464e59ea25ca3a967ef2566cc5c28bd2a8e432c90f4", func := "croft/croftlaw05.ZorderSorts", spec := "zorderSorts", unfollowed := true, recurses := true, apart := false }
def ZorderSortsSaid : Prop := zorderSortsRow.holds Try.pinned (OpenSpec.ofChange zorderSortsSpec)

/-- ITS FALSE NEIGHBOUR: 'it returns false'. Refute it at one input. -/
def zorderSortsWrong : ChangeSpec := { name := "zorderSorts", fn := fun _ => fun
  | [d1, d2] => { results := [.lit (.bool false)], args := [d1, d2] }
  | _ => none }
def ZorderSortsWrongFalsely : Prop := zorderSortsRow.holds Try.pinned (OpenSpec.ofChange zorderSortsWrong)

/- THE SECOND FORM. 'bulk': how many values and letters a reading holds, each counted each time it is reached (what is shared counts as often as it is met; a slice's spare places count too). A statement '..UptoSaid' is the law's where the arguments, and the package variables that the reading takes, are together of bulk at most 1048576: NARROWER than '..Said'. Prove '..Said' where nothing that the law and all that it calls make is longer than what came in: it says more and counts as full. Else prove '..UptoSaid'. A law counts once. -/
mutual
def uptoBulk {H : Type} : DataW H → Nat
  | .lit (.string bytes) => bytes.length + 1
  | .lit _ => 1
  | .nil => 1
  | .ptr d => uptoBulk d + 1
  | .slice elems spare => uptoBulkAll elems + uptoBulkAll spare + 1
  | .agg parts => uptoBulkAll parts + 1
  | .iface _ d => uptoBulk d + 1
  | .map entries => uptoBulkEntries entries + 1
  | .held _ => 1
def uptoBulkAll {H : Type} : List (DataW H) → Nat
  | [] => 0
  | d :: r => uptoBulk d + uptoBulkAll r
def uptoBulkEntries {H : Type} : List (Lit × DataW H) → Nat
  | [] => 0
  | x :: r => uptoBulkEntry x + uptoBulkEntries r
def uptoBulkEntry {H : Type} : Lit × DataW H → Nat
  | (.string bytes, d) => bytes.length + uptoBulk d + 1
  | (_, d) => uptoBulk d + 1
 end
def uptoSmall : (H : Type) → List (DataW H) → Bool := fun _ ds => decide (uptoBulkAll ds ≤ 1048576)
def OpenSpec.upto (s : _root_.Go.ChangeSpec) : _root_.Go.OpenSpec := { _root_.Go.OpenSpec.ofChange s with cond := some uptoSmall }

/-- 'croftlaw17.NmapTells', WHERE WHAT IT READS IS OF BULK AT MOST 1048576: true; the input reads as it did. -/
def nmapTellsUptoRow : OpenClaim := { program := "ytjikndfpkhgnkaa", sum := "3bdaaad57671a47751778464e59ea25ca3a967ef2566cc5c28bd2a8e432c90f4", func := "croft/croftlaw17.NmapTells", spec := "nmapTells", apart := false, narrowed := true }
def NmapTellsUptoSaid : Prop := nmapTellsUptoRow.holds Try.pinned (OpenSpec.upto nmapTellsSpec)

/-- 'croftlaw05.ZorderTells', WHERE WHAT IT READS IS OF BULK AT MOST 1048576: true; the input reads as it did. -/
def zorderTellsUptoRow : OpenClaim := { program := "ytjikndfpkhgnkaa", sum := "3bdaaad57671a47751778464e59ea25ca3a967ef2566cc5c28bd2a8e432c90f4", func := "croft/croftlaw05.ZorderTells", spec := "zorderTells", apart := false, narrowed := true }
def ZorderTellsUptoSaid : Prop := zorderTellsUptoRow.holds Try.pinned (OpenSpec.upto zorderTellsSpec)

/-- 'croftlaw05.ZorderRows', WHERE WHAT IT READS IS OF BULK AT MOST 1048576: true; the input reads as it did. -/
def zorderRowsUptoRow : OpenClaim := { program := "ytjikndfpkhgnkaa", sum := "3bdaaad57671a47751778464e59ea25ca3a967ef2566cc5c28bd2a8e432c90f4", func := "croft/croftlaw05.ZorderRows", spec := "zorderRows", apart := false, narrowed := true }
def ZorderRowsUptoSaid : Prop := zorderRowsUptoRow.holds Try.pinned (OpenSpec.upto zorderRowsSpec)

/-- 'croftlaw01.LittleWrites', WHERE WHAT IT READS IS OF BULK AT MOST 1048576: true; the input reads as it did. -/
def littleWritesUptoRow : OpenClaim := { program := "ytjikndfpkhgnkaa", sum := "3bdaaad57671a47751778464e59ea25ca3a967ef2566cc5c28bd2a8e432c90f4", func := "croft/croftlaw01.LittleWrites", spec := "littleWrites", apart := false, narrowed := true }
def LittleWritesUptoSaid : Prop := littleWritesUptoRow.holds Try.pinned (OpenSpec.upto littleWritesSpec)

/-- 'croftlaw02.CrcTells', WHERE WHAT IT READS IS OF BULK AT MOST 1048576: true; the input reads as it did. -/
def crcTellsUptoRow : OpenClaim := { program := "ytjikndfpkhgnkaa", sum := "3bdaaad57671a47751778464e59ea25ca3a967ef2566cc5c28bd2a8e432c90f4", func := "croft/croftlaw02.CrcTells", spec := "crcTells", apart := false, narrowed := true }
def CrcTellsUptoSaid : Prop := crcTellsUptoRow.holds Try.pinned (OpenSpec.upto crcTellsSpec)

/-- 'croftlaw02.CrcTables', WHERE WHAT IT READS IS OF BULK AT MOST 1048576: true; the input reads as it did. -/
def crcTablesUptoRow : OpenClaim := { program := "ytjikndfpkhgnkaa", sum := "3bdaaad57671a47751778464e59ea25ca3a967ef2566cc5c28bd2a8e432c90f4", func := "croft/croftlaw02.CrcTables", spec := "crcTables", apart := false, narrowed := true }
def CrcTablesUptoSaid : Prop := crcTablesUptoRow.holds Try.pinned (OpenSpec.upto crcTablesSpec)

/-- 'croftlaw17.NmapApplies', WHERE WHAT IT READS IS OF BULK AT MOST 1048576: true; the input reads as it did. -/
def nmapAppliesUptoRow : OpenClaim := { program := "ytjikndfpkhgnkaa", sum := "3bdaaad57671a47751778464e59ea25ca3a967ef2566cc5c28bd2a8e432c90f4", func := "croft/croftlaw17.NmapApplies", spec := "nmapApplies", unfollowed := true, recurses := true, apart := false, narrowed := true }
def NmapAppliesUptoSaid : Prop := nmapAppliesUptoRow.holds Try.pinned (OpenSpec.upto nmapAppliesSpec)

/-- 'croftlaw17.NmapGone', WHERE WHAT IT READS IS OF BULK AT MOST 1048576: true; the input reads as it did. -/
def nmapGoneUptoRow : OpenClaim := { program := "ytjikndfpkhgnkaa", sum := "3bdaaad57671a47751778464e59ea25ca3a967ef2566cc5c28bd2a8e432c90f4", func := "croft/croftlaw17.NmapGone", spec := "nmapGone", unfollowed := true, recurses := true, apart := false, narrowed := true }
def NmapGoneUptoSaid : Prop := nmapGoneUptoRow.holds Try.pinned (OpenSpec.upto nmapGoneSpec)

/-- 'croftlaw01.LittleReads', WHERE WHAT IT READS IS OF BULK AT MOST 1048576: true; the input reads as it did. -/
def littleReadsUptoRow : OpenClaim := { program := "ytjikndfpkhgnkaa", sum := "3bdaaad57671a47751778464e59ea25ca3a967ef2566cc5c28bd2a8e432c90f4", func := "croft/croftlaw01.LittleReads", spec := "littleReads", apart := false, narrowed := true }
def LittleReadsUptoSaid : Prop := littleReadsUptoRow.holds Try.pinned (OpenSpec.upto littleReadsSpec)

/-- 'croftlaw01.LittleNobody', WHERE WHAT IT READS IS OF BULK AT MOST 1048576: true; the input reads as it did. -/
def littleNobodyUptoRow : OpenClaim := { program := "ytjikndfpkhgnkaa", sum := "3bdaaad57671a47751778464e59ea25ca3a967ef2566cc5c28bd2a8e432c90f4", func := "croft/croftlaw01.LittleNobody", spec := "littleNobody", apart := false, narrowed := true }
def LittleNobodyUptoSaid : Prop := littleNobodyUptoRow.holds Try.pinned (OpenSpec.upto littleNobodySpec)

/-- 'croftlaw05.ZorderSorts', WHERE WHAT IT READS IS OF BULK AT MOST 1048576: true; the input reads as it did. -/
def zorderSortsUptoRow : OpenClaim := { program := "ytjikndfpkhgnkaa", sum := "3bdaaad57671a47751778464e59ea25ca3a967ef2566cc5c28bd2a8e432c90f4", func := "croft/croftlaw05.ZorderSorts", spec := "zorderSorts", unfollowed := true, recurses := true, apart := false, narrowed := true }
def ZorderSortsUptoSaid : Prop := zorderSortsUptoRow.holds Try.pinned (OpenSpec.upto zorderSortsSpec)

end Rows
end Go.Proofs.Ytjikndfpkhgnkaa
