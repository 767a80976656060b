/- 'go_k': behind a cut the goal is 'K a w', K a name: one step back to the code that follows, without walking into it. -/
import Lean
namespace Go.Proofs.Ytjikndfpkhgnkaa
open Lean Elab Tactic Meta
elab "go_k" : tactic => withMainContext do
  let t ← instantiateMVars (← getMainTarget)
  let f := t.getAppFn
  unless f.isFVar do throwError "go_k: the goal's head is no name"
  for d in ← getLCtx do
    let ty ← instantiateMVars d.type
    let b ← forallTelescope ty fun _ b => pure b
    if ty.isForall && b.getAppFn == f then
      let gs ← (← getMainGoal).apply (mkFVar d.fvarId)
      replaceMainGoal gs
      return
  throwError "go_k: no hypothesis for this name"
end Go.Proofs.Ytjikndfpkhgnkaa
