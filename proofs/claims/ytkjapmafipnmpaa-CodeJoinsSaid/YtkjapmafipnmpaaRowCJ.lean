/- For all steps, and others: 'CodeJoins' returns true. No condition. -/
import Derived.Test.YtkjapmafipnmpaaOpen
import Derived.Test.YtkjapmafipnmpaaC6
import Derived.Test.YtkjapmafipnmpaaOStp
namespace Go.Proofs.Ytkjapmafipnmpaa.codeJoins
open Go.ChangeShapes Go.WideShapes Go.ChangeAt Go.RowKit 
set_option linter.unusedVariables false

set_option maxRecDepth 100000 in
theorem lifted (os : Os) (started : os.Started) (H : Type) (enc : TypeId × Value → H) :
    ReturnsInHanded {} Try.checked os 5 .any (Rows.codeJoinsSpec.pre6 enc Try.prog Try.f5 Rows.codeJoinsRow.domain false) (Rows.codeJoinsSpec.post enc Try.prog Try.f5 false true false false) := by
  refine returnsInHanded_of_change_sized (C := Try.checked) own0 started (by kernel_rfl) Try.func5
    (ChangeSpec.witness6 (enc := enc) (C := Try.checked) false ⟨#[], #[.slice none 0 0, .slice none 0 0], []⟩ 8 (by kernel_rfl) (by kernel_rfl) (by kernel_rfl) (by kernel_rfl)) ?_
  intro W base args ds gs before hval0 hW hcnd hsz _
  have hval : ∀ (j : Nat) t v, Try.f5.params[j]? = some t → args[j]? = some v → Value.okWide Try.prog W .any base t v := hval0
  have hW' := hW
  obtain ⟨p, q, hA0, hV, rfl, hfz, hnd⟩ := hW
  have hA : DataW.TrodAll enc Try.prog W 0 (fun _ => true) true Try.f5.params.toList args.toList ds p := hA0
  rw [Try.params5] at hA hval
  obtain ⟨v0, vs0, d0, ds0, p0, q0, hargs, rfl, rfl, h0, r0⟩ := trodAll_cons hA
  obtain ⟨v1, vs1, d1, ds1, p1, q1, rfl, rfl, rfl, h1, r1⟩ := trodAll_cons r0
  obtain ⟨rfl, rfl, rfl⟩ := trodAll_nil r1
  obtain rfl : args = #[v0, v1] := by cases args; simp_all
  obtain ⟨rfl, rfl⟩ := trodVars_none hV
  obtain ⟨l0, b0, e0, c0⟩ := open_slice stp_opens Try.underlying39 (by kernel_rfl : _ = 8) (by decide) Cd.StepS.cells_len (hval 0 39 v0 rfl rfl) h0 (sz_of hsz 0 39 _ (by rw [Try.params5]; rfl) rfl)
  obtain ⟨l1, b1, e1, c1⟩ := open_slice stp_opens Try.underlying39 (by kernel_rfl : _ = 8) (by decide) Cd.StepS.cells_len (hval 1 39 v1 rfl rfl) h1 (sz_of hsz 1 39 _ (by rw [Try.params5]; rfl) rfl)
  have hcall : Calls Try.prog 5 #[v0, v1] W fun e w' => e = .returned (.bool true) ∧ Below W.heap.size W w' := Cd.joins_walk v0 l0 v1 l1 W b0 b1 e0 e1
  refine hcall.mono fun e W' ⟨he, hb⟩ => ?_
  subst he
  exact ⟨_, rfl, law_post laid0 (by kernel_rfl) rfl (by kernel_rfl) Try.underlying4 hW' rfl rfl rfl hb⟩

theorem over : Rows.codeJoinsRow.holds Try.pinned (OpenSpec.ofChange Rows.codeJoinsSpec) :=
  OpenClaim.holds_of_wide 5 Try.f5 rfl rfl rfl rfl rfl rfl rfl ⟨rfl, rfl, rfl, rfl, rfl⟩ rfl rfl rfl rfl rfl (by kernel_rfl) Try.func5 (by kernel_rfl)
    (of_decide_eq_true (by kernel_rfl)) (by unfold Func.isWrapper; first | (rw [if_pos (by decide +kernel)]; kernel_rfl) | (rw [if_neg (by decide +kernel)]; exact ⟨rfl, rfl⟩))
    (fun os started H enc _ => lifted os started H enc)

end Go.Proofs.Ytkjapmafipnmpaa.codeJoins
namespace Go.Proofs.Ytkjapmafipnmpaa
theorem codeJoins_proved : Rows.CodeJoinsSaid := codeJoins.over
#print axioms codeJoins_proved
end Go.Proofs.Ytkjapmafipnmpaa
