/- For every two summaries: 'BatchTells' returns true. No condition. -/
import Derived.Test.YtkjapmafipnmpaaOpen
import Derived.Test.YtkjapmafipnmpaaBatch4
import Derived.Test.YtkjapmafipnmpaaOEnt
namespace Go.Proofs.Ytkjapmafipnmpaa.batchTells
open Go.ChangeShapes Go.WideShapes Go.ChangeAt Go.RowKit 
set_option linter.unusedVariables false

set_option maxRecDepth 100000 in
theorem lifted (os : Os) (started : os.Started) (H : Type) (enc : TypeId × Value → H) :
    ReturnsInHanded {} Try.checked os 8 .any (Rows.batchTellsSpec.pre6 enc Try.prog Try.f8 Rows.batchTellsRow.domain false) (Rows.batchTellsSpec.post enc Try.prog Try.f8 false true false false) := by
  refine returnsInHanded_of_change_sized (C := Try.checked) own0 started (by kernel_rfl) Try.func8
    (ChangeSpec.witness6 (enc := enc) (C := Try.checked) false ⟨#[], #[(.agg #[.int .i64 0, .bool false, .slice none 0 0]), (.agg #[.int .i64 0, .bool false, .slice none 0 0])], []⟩ 8 (by kernel_rfl) (by kernel_rfl) (by kernel_rfl) (by kernel_rfl)) ?_
  intro W base args ds gs before hval0 hW hcnd hsz _
  have hval : ∀ (j : Nat) t v, Try.f8.params[j]? = some t → args[j]? = some v → Value.okWide Try.prog W .any base t v := hval0
  have hW' := hW
  obtain ⟨p, q, hA0, hV, rfl, hfz, hnd⟩ := hW
  have hA : DataW.TrodAll enc Try.prog W 0 (fun _ => true) true Try.f8.params.toList args.toList ds p := hA0
  rw [Try.params8] at hA hval
  obtain ⟨v0, vs0, d0, ds0, p0, q0, hargs, rfl, rfl, h0, r0⟩ := trodAll_cons hA
  obtain ⟨v1, vs1, d1, ds1, p1, q1, rfl, rfl, rfl, h1, r1⟩ := trodAll_cons r0
  obtain ⟨rfl, rfl, rfl⟩ := trodAll_nil r1
  obtain rfl : args = #[v0, v1] := by cases args; simp_all
  obtain ⟨rfl, rfl⟩ := trodVars_none hV
  obtain ⟨s0, rfl, b0⟩ := open_struct sum_opens Try.underlying73 (hval 0 73 v0 rfl rfl) h0 (sz_of hsz 0 73 _ (by rw [Try.params8]; rfl) rfl)
  obtain ⟨s1, rfl, b1⟩ := open_struct sum_opens Try.underlying73 (hval 1 73 v1 rfl rfl) h1 (sz_of hsz 1 73 _ (by rw [Try.params8]; rfl) rfl)
  have hcall : Calls Try.prog 8 #[(.agg #[.int .i64 s0.next, .bool s0.last, s0.v]), (.agg #[.int .i64 s1.next, .bool s1.last, s1.v])] W fun e w' => e = .returned (.bool true) ∧ Below W.heap.size W w' := Bt.tells_walk s0.next s1.next s0.last s1.last s0.v s1.v s0.l s1.l W b0.2.1 b1.2.1 b0.2.2.2 b1.2.2.2 b0.2.2.1
  refine hcall.mono fun e W' ⟨he, hb⟩ => ?_
  subst he
  exact ⟨_, rfl, law_post laid0 (by kernel_rfl) rfl (by kernel_rfl) Try.underlying4 hW' rfl rfl rfl hb⟩

theorem over : Rows.batchTellsRow.holds Try.pinned (OpenSpec.ofChange Rows.batchTellsSpec) :=
  OpenClaim.holds_of_wide 8 Try.f8 rfl rfl rfl rfl rfl rfl rfl ⟨rfl, rfl, rfl, rfl, rfl⟩ rfl rfl rfl rfl rfl (by kernel_rfl) Try.func8 (by kernel_rfl)
    (of_decide_eq_true (by kernel_rfl)) (by unfold Func.isWrapper; first | (rw [if_pos (by decide +kernel)]; kernel_rfl) | (rw [if_neg (by decide +kernel)]; exact ⟨rfl, rfl⟩))
    (fun os started H enc _ => lifted os started H enc)

end Go.Proofs.Ytkjapmafipnmpaa.batchTells
namespace Go.Proofs.Ytkjapmafipnmpaa
theorem batchTells_proved : Rows.BatchTellsSaid := batchTells.over
#print axioms batchTells_proved
end Go.Proofs.Ytkjapmafipnmpaa
