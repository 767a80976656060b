/- For every list of items and of bools: 'HeapRuns' returns true. No condition. -/
import Derived.Test.YtkjapmafipnmpaaOpen
import Derived.Test.YtkjapmafipnmpaaH10
import Derived.Test.YtkjapmafipnmpaaOIt
namespace Go.Proofs.Ytkjapmafipnmpaa.heapRuns
open Go.ChangeShapes Go.WideShapes Go.ChangeAt Go.RowKit 
set_option linter.unusedVariables false

set_option maxRecDepth 100000 in
theorem lifted (os : Os) (started : os.Started) (H : Type) (enc : TypeId × Value → H) :
    ReturnsInHanded {} Try.checked os 3 .any (Rows.heapRunsSpec.pre6 enc Try.prog Try.f3 Rows.heapRunsRow.domain false) (Rows.heapRunsSpec.post enc Try.prog Try.f3 false true false false) := by
  refine returnsInHanded_of_change_sized (C := Try.checked) own0 started (by kernel_rfl) Try.func3
    (ChangeSpec.witness6 (enc := enc) (C := Try.checked) false ⟨#[], #[.slice none 0 0, .slice none 0 0], []⟩ 8 (by kernel_rfl) (by kernel_rfl) (by kernel_rfl) (by kernel_rfl)) ?_
  intro W base args ds gs before hval0 hW hcnd hsz _
  have hval : ∀ (j : Nat) t v, Try.f3.params[j]? = some t → args[j]? = some v → Value.okWide Try.prog W .any base t v := hval0
  have hW' := hW
  obtain ⟨p, q, hA0, hV, rfl, hfz, hnd⟩ := hW
  have hA : DataW.TrodAll enc Try.prog W 0 (fun _ => true) true Try.f3.params.toList args.toList ds p := hA0
  rw [Try.params3] at hA hval
  obtain ⟨v0, vs0, d0, ds0, p0, q0, hargs, rfl, rfl, h0, r0⟩ := trodAll_cons hA
  obtain ⟨v1, vs1, d1, ds1, p1, q1, rfl, rfl, rfl, h1, r1⟩ := trodAll_cons r0
  obtain ⟨rfl, rfl, rfl⟩ := trodAll_nil r1
  obtain rfl : args = #[v0, v1] := by cases args; simp_all
  obtain ⟨rfl, rfl⟩ := trodVars_none hV
  obtain ⟨l0, b0, e0, c0⟩ := open_slice it_opens Try.underlying22 (by kernel_rfl : _ = 4) (by decide) Hp.ItS.cells_len (hval 0 22 v0 rfl rfl) h0 (sz_of hsz 0 22 _ (by rw [Try.params3]; rfl) rfl)
  obtain ⟨l1, b1, e1, c1⟩ := open_slice bool_opens Try.underlying23 (by kernel_rfl : _ = 1) (by decide) (fun _ => rfl) (hval 1 23 v1 rfl rfl) h1 (sz_of hsz 1 23 _ (by rw [Try.params3]; rfl) rfl)
  have hcall : Calls Try.prog 3 #[v0, v1] W fun e w' => e = .returned (.bool true) ∧ Below W.heap.size W w' := Hp.hruns_walk v0 v1 l0 l1 W b0 b1 (by have hc := c0; rw [show Try.prog.bytesOf 33 = 32 from by kernel_rfl, show reachBytes = 140737488351232 from by decide] at hc; omega) (by have hc := c1; rw [show Try.prog.bytesOf 4 = 1 from by kernel_rfl, show reachBytes = 140737488351232 from by decide] at hc; omega)
  refine hcall.mono fun e W' ⟨he, hb⟩ => ?_
  subst he
  exact ⟨_, rfl, law_post laid0 (by kernel_rfl) rfl (by kernel_rfl) Try.underlying4 hW' rfl rfl rfl hb⟩

theorem over : Rows.heapRunsRow.holds Try.pinned (OpenSpec.ofChange Rows.heapRunsSpec) :=
  OpenClaim.holds_of_wide 3 Try.f3 rfl rfl rfl rfl rfl rfl rfl ⟨rfl, rfl, rfl, rfl, rfl⟩ rfl rfl rfl rfl rfl (by kernel_rfl) Try.func3 (by kernel_rfl)
    (of_decide_eq_true (by kernel_rfl)) (by unfold Func.isWrapper; first | (rw [if_pos (by decide +kernel)]; kernel_rfl) | (rw [if_neg (by decide +kernel)]; exact ⟨rfl, rfl⟩))
    (fun os started H enc _ => lifted os started H enc)

end Go.Proofs.Ytkjapmafipnmpaa.heapRuns
namespace Go.Proofs.Ytkjapmafipnmpaa
theorem heapRuns_proved : Rows.HeapRunsSaid := heapRuns.over
#print axioms heapRuns_proved
end Go.Proofs.Ytkjapmafipnmpaa
