/-
  No cell of these rows narrows 'for every input' (looked for: loops, veiled, ifaces, maps, wideKeys, modest, calm, conditions, laid).
  DERIVED. THE GIVEN ROWS OF THIS SEAT. 12 by the template 'for every input the law returns true; each argument reads behind the call as it read before'; 0 by the template 'total and deterministic' (their statements: YthpnlgdcijmocaaTotals.lean).
  GIVEN WITH THE SEED: the statements are not yours to turn. If you find one false, say at which input.
  Laid BY PROGRAM, IN A SANDBOX (cutbox-rows.mjs): the forced cells as the released guide's own fill.sh prints them over the translation e700adca66b5d1c0… (all of the seat's roots in one cut). By AI agents, Wed Nov 11 2026. No macro, syntax, notation, axiom, sorry.
-/
import Derived.Test.YthpnlgdcijmocaaChecked
import GoSem.Claim
import GoSem.ClaimJoined
import GoSem.ClaimMapViews
import Derived.JoinedTies
import Derived.KernelRfl
namespace Go.Proofs.Ythpnlgdcijmocaa
/- THE CELL 'sum', in the pinned program and in every row, IS THE sha256 OF THE DUMP (.gsa) THAT YthpnlgdcijmocaaProg.lean LOADS. Nothing in Lean hashes anything: it is a label: what it is worth is what the hold of that sum in a sandbox is worth. -/
noncomputable def Try.pinned : Pinned := { name := "ythpnlgdcijmocaa", sum := "e700adca66b5d1c02c281498489984eb2106a638168a8e0537fcf789621d9a44", checked := Try.checked }
namespace Rows
def none {H : Type} : Left H := { results := [], args := [] }

/-- 'croftlaw18.PlanApart': WHATEVER THE INPUT: true; the input reads as it did. -/
def planApartSpec : ChangeSpec := { name := "planApart", fn := fun _ => fun
  | [d1, d2, d3] => { results := [.lit (.bool true)], args := [d1, d2, d3] }
  | _ => none }
def planApartRow : OpenClaim := { program := "ythpnlgdcijmocaa", sum := "e700adca66b5d1c02c281498489984eb2106a638168a8e0537fcf789621d9a44", func := "croft/croftlaw18.PlanApart", spec := "planApart", unfollowed := true, recurses := true, apart := false }
def PlanApartSaid : Prop := planApartRow.holds Try.pinned (OpenSpec.ofChange planApartSpec)

/-- ITS FALSE NEIGHBOUR: 'it returns false'. Refute it at one input. -/
def planApartWrong : ChangeSpec := { name := "planApart", fn := fun _ => fun
  | [d1, d2, d3] => { results := [.lit (.bool false)], args := [d1, d2, d3] }
  | _ => none }
def PlanApartWrongFalsely : Prop := planApartRow.holds Try.pinned (OpenSpec.ofChange planApartWrong)

/-- 'croftlaw18.PlanTells': WHATEVER THE INPUT: true; the input reads as it did. -/
def planTellsSpec : ChangeSpec := { name := "planTells", fn := fun _ => fun
  | [d1, d2, d3, d4] => { results := [.lit (.bool true)], args := [d1, d2, d3, d4] }
  | _ => none }
def planTellsRow : OpenClaim := { program := "ythpnlgdcijmocaa", sum := "e700adca66b5d1c02c281498489984eb2106a638168a8e0537fcf789621d9a44", func := "croft/croftlaw18.PlanTells", spec := "planTells", unfollowed := true, recurses := true, apart := false }
def PlanTellsSaid : Prop := planTellsRow.holds Try.pinned (OpenSpec.ofChange planTellsSpec)

/-- ITS FALSE NEIGHBOUR: 'it returns false'. Refute it at one input. -/
def planTellsWrong : ChangeSpec := { name := "planTells", fn := fun _ => fun
  | [d1, d2, d3, d4] => { results := [.lit (.bool false)], args := [d1, d2, d3, d4] }
  | _ => none }
def PlanTellsWrongFalsely : Prop := planTellsRow.holds Try.pinned (OpenSpec.ofChange planTellsWrong)

/-- 'croftlaw18.PlanRoom': WHATEVER THE INPUT: true; the input reads as it did. -/
def planRoomSpec : ChangeSpec := { name := "planRoom", fn := fun _ => fun
  | [d1, d2, d3, d4] => { results := [.lit (.bool true)], args := [d1, d2, d3, d4] }
  | _ => none }
def planRoomRow : OpenClaim := { program := "ythpnlgdcijmocaa", sum := "e700adca66b5d1c02c281498489984eb2106a638168a8e0537fcf789621d9a44", func := "croft/croftlaw18.PlanRoom", spec := "planRoom", unfollowed := true, recurses := true, apart := false }
def PlanRoomSaid : Prop := planRoomRow.holds Try.pinned (OpenSpec.ofChange planRoomSpec)

/-- ITS FALSE NEIGHBOUR: 'it returns false'. Refute it at one input. -/
def planRoomWrong : ChangeSpec := { name := "planRoom", fn := fun _ => fun
  | [d1, d2, d3, d4] => { results := [.lit (.bool false)], args := [d1, d2, d3, d4] }
  | _ => none }
def PlanRoomWrongFalsely : Prop := planRoomRow.holds Try.pinned (OpenSpec.ofChange planRoomWrong)

/-- 'croftlaw22.GroveApart': WHATEVER THE INPUT: true; the input reads as it did. -/
def groveApartSpec : ChangeSpec := { name := "groveApart", fn := fun _ => fun
  | [d1, d2, d3] => { results := [.lit (.bool true)], args := [d1, d2, d3] }
  | _ => none }
def groveApartRow : OpenClaim := { program := "ythpnlgdcijmocaa", sum := "e700adca66b5d1c02c281498489984eb2106a638168a8e0537fcf789621d9a44", func := "croft/croftlaw22.GroveApart", spec := "groveApart", apart := false }
def GroveApartSaid : Prop := groveApartRow.holds Try.pinned (OpenSpec.ofChange groveApartSpec)

/-- ITS FALSE NEIGHBOUR: 'it returns false'. Refute it at one input. -/
def groveApartWrong : ChangeSpec := { name := "groveApart", fn := fun _ => fun
  | [d1, d2, d3] => { results := [.lit (.bool false)], args := [d1, d2, d3] }
  | _ => none }
def GroveApartWrongFalsely : Prop := groveApartRow.holds Try.pinned (OpenSpec.ofChange groveApartWrong)

/-- 'croftlaw22.GroveRuns': WHATEVER THE INPUT: true; the input reads as it did. -/
def groveRunsSpec : ChangeSpec := { name := "groveRuns", fn := fun _ => fun
  | [d1, d2] => { results := [.lit (.bool true)], args := [d1, d2] }
  | _ => none }
def groveRunsRow : OpenClaim := { program := "ythpnlgdcijmocaa", sum := "e700adca66b5d1c02c281498489984eb2106a638168a8e0537fcf789621d9a44", func := "croft/croftlaw22.GroveRuns", spec := "groveRuns", apart := false }
def GroveRunsSaid : Prop := groveRunsRow.holds Try.pinned (OpenSpec.ofChange groveRunsSpec)

/-- ITS FALSE NEIGHBOUR: 'it returns false'. Refute it at one input. -/
def groveRunsWrong : ChangeSpec := { name := "groveRuns", fn := fun _ => fun
  | [d1, d2] => { results := [.lit (.bool false)], args := [d1, d2] }
  | _ => none }
def GroveRunsWrongFalsely : Prop := groveRunsRow.holds Try.pinned (OpenSpec.ofChange groveRunsWrong)

/-- 'croftlaw22.GroveNobody': WHATEVER THE INPUT: true; the input reads as it did. -/
def groveNobodySpec : ChangeSpec := { name := "groveNobody", fn := fun _ => fun
  | [d1, d2] => { results := [.lit (.bool true)], args := [d1, d2] }
  | _ => none }
def groveNobodyRow : OpenClaim := { program := "ythpnlgdcijmocaa", sum := "e700adca66b5d1c02c281498489984eb2106a638168a8e0537fcf789621d9a44", func := "croft/croftlaw22.GroveNobody", spec := "groveNobody", apart := false }
def GroveNobodySaid : Prop := groveNobodyRow.holds Try.pinned (OpenSpec.ofChange groveNobodySpec)

/-- ITS FALSE NEIGHBOUR: 'it returns false'. Refute it at one input. -/
def groveNobodyWrong : ChangeSpec := { name := "groveNobody", fn := fun _ => fun
  | [d1, d2] => { results := [.lit (.bool false)], args := [d1, d2] }
  | _ => none }
def GroveNobodyWrongFalsely : Prop := groveNobodyRow.holds Try.pinned (OpenSpec.ofChange groveNobodyWrong)

/-- 'croftlaw08.NodeBack': WHATEVER THE INPUT: true; the input reads as it did. -/
def nodeBackSpec : ChangeSpec := { name := "nodeBack", fn := fun _ => fun
  | [d1, d2] => { results := [.lit (.bool true)], args := [d1, d2] }
  | _ => none }
def nodeBackRow : OpenClaim := { program := "ythpnlgdcijmocaa", sum := "e700adca66b5d1c02c281498489984eb2106a638168a8e0537fcf789621d9a44", func := "croft/croftlaw08.NodeBack", spec := "nodeBack", apart := false }
def NodeBackSaid : Prop := nodeBackRow.holds Try.pinned (OpenSpec.ofChange nodeBackSpec)

/-- ITS FALSE NEIGHBOUR: 'it returns false'. Refute it at one input. -/
def nodeBackWrong : ChangeSpec := { name := "nodeBack", fn := fun _ => fun
  | [d1, d2] => { results := [.lit (.bool false)], args := [d1, d2] }
  | _ => none }
def NodeBackWrongFalsely : Prop := nodeBackRow.holds Try.pinned (OpenSpec.ofChange nodeBackWrong)

/-- 'croftlaw14.DiskSure': WHATEVER THE INPUT: true; the input reads as it did. -/
def diskSureSpec : ChangeSpec := { name := "diskSure", fn := fun _ => fun
  | [d1, d2, d3, d4] => { results := [.lit (.bool true)], args := [d1, d2, d3, d4] }
  | _ => none }
def diskSureRow : OpenClaim := { program := "ythpnlgdcijmocaa", sum := "e700adca66b5d1c02c281498489984eb2106a638168a8e0537fcf789621d9a44", func := "croft/croftlaw14.DiskSure", spec := "diskSure", unfollowed := true, recurses := true, apart := false }
def DiskSureSaid : Prop := diskSureRow.holds Try.pinned (OpenSpec.ofChange diskSureSpec)

/-- ITS FALSE NEIGHBOUR: 'it returns false'. Refute it at one input. -/
def diskSureWrong : ChangeSpec := { name := "diskSure", fn := fun _ => fun
  | [d1, d2, d3, d4] => { results := [.lit (.bool false)], args := [d1, d2, d3, d4] }
  | _ => none }
def DiskSureWrongFalsely : Prop := diskSureRow.holds Try.pinned (OpenSpec.ofChange diskSureWrong)

/-- 'croftlaw14.DiskLoads': WHATEVER THE INPUT: true; the input reads as it did. -/
def diskLoadsSpec : ChangeSpec := { name := "diskLoads", fn := fun _ => fun
  | [d1, d2] => { results := [.lit (.bool true)], args := [d1, d2] }
  | _ => none }
def diskLoadsRow : OpenClaim := { program := "ythpnlgdcijmocaa", sum := "e700adca66b5d1c02c281498489984eb2106a638168a8e0537fcf789621d9a44", func := "croft/croftlaw14.DiskLoads", spec := "diskLoads", unfollowed := true, recurses := true, apart := false }
def DiskLoadsSaid : Prop := diskLoadsRow.holds Try.pinned (OpenSpec.ofChange diskLoadsSpec)

/-- ITS FALSE NEIGHBOUR: 'it returns false'. Refute it at one input. -/
def diskLoadsWrong : ChangeSpec := { name := "diskLoads", fn := fun _ => fun
  | [d1, d2] => { results := [.lit (.bool false)], args := [d1, d2] }
  | _ => none }
def DiskLoadsWrongFalsely : Prop := diskLoadsRow.holds Try.pinned (OpenSpec.ofChange diskLoadsWrong)

/-- 'croftlaw08.NodeTells': WHATEVER THE INPUT: true; the input reads as it did. -/
def nodeTellsSpec : ChangeSpec := { name := "nodeTells", fn := fun _ => fun
  | [d1, d2, d3] => { results := [.lit (.bool true)], args := [d1, d2, d3] }
  | _ => none }
def nodeTellsRow : OpenClaim := { program := "ythpnlgdcijmocaa", sum := "e700adca66b5d1c02c281498489984eb2106a638168a8e0537fcf789621d9a44", func := "croft/croftlaw08.NodeTells", spec := "nodeTells", apart := false }
def NodeTellsSaid : Prop := nodeTellsRow.holds Try.pinned (OpenSpec.ofChange nodeTellsSpec)

/-- ITS FALSE NEIGHBOUR: 'it returns false'. Refute it at one input. -/
def nodeTellsWrong : ChangeSpec := { name := "nodeTells", fn := fun _ => fun
  | [d1, d2, d3] => { results := [.lit (.bool false)], args := [d1, d2, d3] }
  | _ => none }
def NodeTellsWrongFalsely : Prop := nodeTellsRow.holds Try.pinned (OpenSpec.ofChange nodeTellsWrong)

/-- 'croftlaw14.DiskRuns': WHATEVER THE INPUT: true; the input reads as it did. -/
def diskRunsSpec : ChangeSpec := { name := "diskRuns", fn := fun _ => fun
  | [d1, d2] => { results := [.lit (.bool true)], args := [d1, d2] }
  | _ => none }
def diskRunsRow : OpenClaim := { program := "ythpnlgdcijmocaa", sum := "e700adca66b5d1c02c281498489984eb2106a638168a8e0537fcf789621d9a44", func := "croft/croftlaw14.DiskRuns", spec := "diskRuns", unfollowed := true, recurses := true, apart := false }
def DiskRunsSaid : Prop := diskRunsRow.holds Try.pinned (OpenSpec.ofChange diskRunsSpec)

/-- ITS FALSE NEIGHBOUR: 'it returns false'. Refute it at one input. -/
def diskRunsWrong : ChangeSpec := { name := "diskRuns", fn := fun _ => fun
  | [d1, d2] => { results := [.lit (.bool false)], args := [d1, d2] }
  | _ => none }
def DiskRunsWrongFalsely : Prop := diskRunsRow.holds Try.pinned (OpenSpec.ofChange diskRunsWrong)

/-- 'croftlaw14.DiskNobody': WHATEVER THE INPUT: true; the input reads as it did. -/
def diskNobodySpec : ChangeSpec := { name := "diskNobody", fn := fun _ => fun
  | [d1, d2, d3] => { results := [.lit (.bool true)], args := [d1, d2, d3] }
  | _ => none }
def diskNobodyRow : OpenClaim := { program := "ythpnlgdcijmocaa", sum := "e700adca66b5d1c02c281498489984eb2106a638168a8e0537fcf789621d9a44", func := "croft/croftlaw14.DiskNobody", spec := "diskNobody", unfollowed := true, recurses := true, apart := false }
def DiskNobodySaid : Prop := diskNobodyRow.holds Try.pinned (OpenSpec.ofChange diskNobodySpec)

/-- ITS FALSE NEIGHBOUR: 'it returns false'. Refute it at one input. -/
def diskNobodyWrong : ChangeSpec := { name := "diskNobody", fn := fun _ => fun
  | [d1, d2, d3] => { results := [.lit (.bool false)], args := [d1, d2, d3] }
  | _ => none }
def DiskNobodyWrongFalsely : Prop := diskNobodyRow.holds Try.pinned (OpenSpec.ofChange diskNobodyWrong)

/- THE SECOND FORM. 'bulk': how many values and letters a reading holds, each counted each time it is reached (what is shared counts as often as it is met; a slice's spare places count too). A statement '..UptoSaid' is the law's where the arguments, and the package variables that the reading takes, are together of bulk at most 1048576: NARROWER than '..Said'. Prove '..Said' where nothing that the law and all that it calls make is longer than what came in: it says more and counts as full. Else prove '..UptoSaid'. A law counts once. -/
mutual
def uptoBulk {H : Type} : DataW H → Nat
  | .lit (.string bytes) => bytes.length + 1
  | .lit _ => 1
  | .nil => 1
  | .ptr d => uptoBulk d + 1
  | .slice elems spare => uptoBulkAll elems + uptoBulkAll spare + 1
  | .agg parts => uptoBulkAll parts + 1
  | .iface _ d => uptoBulk d + 1
  | .map entries => uptoBulkEntries entries + 1
  | .held _ => 1
def uptoBulkAll {H : Type} : List (DataW H) → Nat
  | [] => 0
  | d :: r => uptoBulk d + uptoBulkAll r
def uptoBulkEntries {H : Type} : List (Lit × DataW H) → Nat
  | [] => 0
  | x :: r => uptoBulkEntry x + uptoBulkEntries r
def uptoBulkEntry {H : Type} : Lit × DataW H → Nat
  | (.string bytes, d) => bytes.length + uptoBulk d + 1
  | (_, d) => uptoBulk d + 1
 end
def uptoSmall : (H : Type) → List (DataW H) → Bool := fun _ ds => decide (uptoBulkAll ds ≤ 1048576)
def OpenSpec.upto (s : _root_.Go.ChangeSpec) : _root_.Go.OpenSpec := { _root_.Go.OpenSpec.ofChange s with cond := some uptoSmall }

/-- 'croftlaw18.PlanApart', WHERE WHAT IT READS IS OF BULK AT MOST 1048576: true; the input reads as it did. -/
def planApartUptoRow : OpenClaim := { program := "ythpnlgdcijmocaa", sum := "e700adca66b5d1c02c281498489984eb2106a638168a8e0537fcf789621d9a44", func := "croft/croftlaw18.PlanApart", spec := "planApart", unfollowed := true, recurses := true, apart := false, narrowed := true }
def PlanApartUptoSaid : Prop := planApartUptoRow.holds Try.pinned (OpenSpec.upto planApartSpec)

/-- 'croftlaw18.PlanTells', WHERE WHAT IT READS IS OF BULK AT MOST 1048576: true; the input reads as it did. -/
def planTellsUptoRow : OpenClaim := { program := "ythpnlgdcijmocaa", sum := "e700adca66b5d1c02c281498489984eb2106a638168a8e0537fcf789621d9a44", func := "croft/croftlaw18.PlanTells", spec := "planTells", unfollowed := true, recurses := true, apart := false, narrowed := true }
def PlanTellsUptoSaid : Prop := planTellsUptoRow.holds Try.pinned (OpenSpec.upto planTellsSpec)

/-- 'croftlaw18.PlanRoom', WHERE WHAT IT READS IS OF BULK AT MOST 1048576: true; the input reads as it did. -/
def planRoomUptoRow : OpenClaim := { program := "ythpnlgdcijmocaa", sum := "e700adca66b5d1c02c281498489984eb2106a638168a8e0537fcf789621d9a44", func := "croft/croftlaw18.PlanRoom", spec := "planRoom", unfollowed := true, recurses := true, apart := false, narrowed := true }
def PlanRoomUptoSaid : Prop := planRoomUptoRow.holds Try.pinned (OpenSpec.upto planRoomSpec)

/-- 'croftlaw22.GroveApart', WHERE WHAT IT READS IS OF BULK AT MOST 1048576: true; the input reads as it did. -/
def groveApartUptoRow : OpenClaim := { program := "ythpnlgdcijmocaa", sum := "e700adca66b5d1c02c281498489984eb2106a638168a8e0537fcf789621d9a44", func := "croft/croftlaw22.GroveApart", spec := "groveApart", apart := false, narrowed := true }
def GroveApartUptoSaid : Prop := groveApartUptoRow.holds Try.pinned (OpenSpec.upto groveApartSpec)

/-- 'croftlaw22.GroveRuns', WHERE WHAT IT READS IS OF BULK AT MOST 1048576: true; the input reads as it did. -/
def groveRunsUptoRow : OpenClaim := { program := "ythpnlgdcijmocaa", sum := "e700adca66b5d1c02c281498489984eb2106a638168a8e0537fcf789621d9a44", func := "croft/croftlaw22.GroveRuns", spec := "groveRuns", apart := false, narrowed := true }
def GroveRunsUptoSaid : Prop := groveRunsUptoRow.holds Try.pinned (OpenSpec.upto groveRunsSpec)

/-- 'croftlaw22.GroveNobody', WHERE WHAT IT READS IS OF BULK AT MOST 1048576: true; the input reads as it did. -/
def groveNobodyUptoRow : OpenClaim := { program := "ythpnlgdcijmocaa", sum := "e700adca66b5d1c02c281498489984eb2106a638168a8e0537fcf789621d9a44", func := "croft/croftlaw22.GroveNobody", spec := "groveNobody", apart := false, narrowed := true }
def GroveNobodyUptoSaid : Prop := groveNobodyUptoRow.holds Try.pinned (OpenSpec.upto groveNobodySpec)

/-- 'croftlaw08.NodeBack', WHERE WHAT IT READS IS OF BULK AT MOST 1048576: true; the input reads as it did. -/
def nodeBackUptoRow : OpenClaim := { program := "ythpnlgdcijmocaa", sum := "e700adca66b5d1c02c281498489984eb2106a638168a8e0537fcf789621d9a44", func := "croft/croftlaw08.NodeBack", spec := "nodeBack", apart := false, narrowed := true }
def NodeBackUptoSaid : Prop := nodeBackUptoRow.holds Try.pinned (OpenSpec.upto nodeBackSpec)

/-- 'croftlaw14.DiskSure', WHERE WHAT IT READS IS OF BULK AT MOST 1048576: true; the input reads as it did. -/
def diskSureUptoRow : OpenClaim := { program := "ythpnlgdcijmocaa", sum := "e700adca66b5d1c02c281498489984eb2106a638168a8e0537fcf789621d9a44", func := "croft/croftlaw14.DiskSure", spec := "diskSure", unfollowed := true, recurses := true, apart := false, narrowed := true }
def DiskSureUptoSaid : Prop := diskSureUptoRow.holds Try.pinned (OpenSpec.upto diskSureSpec)

/-- 'croftlaw14.DiskLoads', WHERE WHAT IT READS IS OF BULK AT MOST 1048576: true; the input reads as it did. -/
def diskLoadsUptoRow : OpenClaim := { program := "ythpnlgdcijmocaa", sum := "e700adca66b5d1c02c281498489984eb2106a638168a8e0537fcf789621d9a44", func := "croft/croftlaw14.DiskLoads", spec := "diskLoads", unfollowed := true, recurses := true, apart := false, narrowed := true }
def DiskLoadsUptoSaid : Prop := diskLoadsUptoRow.holds Try.pinned (OpenSpec.upto diskLoadsSpec)

/-- 'croftlaw08.NodeTells', WHERE WHAT IT READS IS OF BULK AT MOST 1048576: true; the input reads as it did. -/
def nodeTellsUptoRow : OpenClaim := { program := "ythpnlgdcijmocaa", sum := "e700adca66b5d1c02c281498489984eb2106a638168a8e0537fcf789621d9a44", func := "croft/croftlaw08.NodeTells", spec := "nodeTells", apart := false, narrowed := true }
def NodeTellsUptoSaid : Prop := nodeTellsUptoRow.holds Try.pinned (OpenSpec.upto nodeTellsSpec)

/-- 'croftlaw14.DiskRuns', WHERE WHAT IT READS IS OF BULK AT MOST 1048576: true; the input reads as it did. -/
def diskRunsUptoRow : OpenClaim := { program := "ythpnlgdcijmocaa", sum := "e700adca66b5d1c02c281498489984eb2106a638168a8e0537fcf789621d9a44", func := "croft/croftlaw14.DiskRuns", spec := "diskRuns", unfollowed := true, recurses := true, apart := false, narrowed := true }
def DiskRunsUptoSaid : Prop := diskRunsUptoRow.holds Try.pinned (OpenSpec.upto diskRunsSpec)

/-- 'croftlaw14.DiskNobody', WHERE WHAT IT READS IS OF BULK AT MOST 1048576: true; the input reads as it did. -/
def diskNobodyUptoRow : OpenClaim := { program := "ythpnlgdcijmocaa", sum := "e700adca66b5d1c02c281498489984eb2106a638168a8e0537fcf789621d9a44", func := "croft/croftlaw14.DiskNobody", spec := "diskNobody", unfollowed := true, recurses := true, apart := false, narrowed := true }
def DiskNobodyUptoSaid : Prop := diskNobodyUptoRow.holds Try.pinned (OpenSpec.upto diskNobodySpec)

end Rows
end Go.Proofs.Ythpnlgdcijmocaa
