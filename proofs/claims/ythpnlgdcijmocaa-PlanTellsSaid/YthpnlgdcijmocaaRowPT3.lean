/- For every geometry, place, free segments and entries: 'PlanTells' returns true. No condition. -/
import Derived.Test.YthpnlgdcijmocaaOpen
import Derived.Test.YthpnlgdcijmocaaPl15
import Derived.Test.YthpnlgdcijmocaaOPl
namespace Go.Proofs.Ythpnlgdcijmocaa.planTells
open Go.ChangeShapes Go.WideShapes Go.ChangeAt Go.RowKit 
set_option linter.unusedVariables false

set_option maxRecDepth 100000 in
theorem lifted (os : Os) (started : os.Started) (H : Type) (enc : TypeId × Value → H) :
    ReturnsInHanded {} Try.checked os 4 .any (Rows.planTellsSpec.pre6 enc Try.prog Try.f4 Rows.planTellsRow.domain false) (Rows.planTellsSpec.post enc Try.prog Try.f4 false true false false) := by
  refine returnsInHanded_of_change_sized (C := Try.checked) own0 started (by kernel_rfl) Try.func4
    (ChangeSpec.witness6 (enc := enc) (C := Try.checked) false ⟨#[], #[(.agg #[.int .i64 0, .int .i64 0]), (.agg #[.int .i64 0, .int .i64 0, .int .i64 0]), .slice none 0 0, .slice none 0 0], []⟩ 8 (by kernel_rfl) (by kernel_rfl) (by kernel_rfl) (by kernel_rfl)) ?_
  intro W base args ds gs before hval0 hW hcnd hsz _
  have hval : ∀ (j : Nat) t v, Try.f4.params[j]? = some t → args[j]? = some v → Value.okWide Try.prog W .any base t v := hval0
  have hW' := hW
  obtain ⟨p, q, hA0, hV, rfl, hfz, hnd⟩ := hW
  have hA : DataW.TrodAll enc Try.prog W 0 (fun _ => true) true Try.f4.params.toList args.toList ds p := hA0
  rw [Try.params4] at hA hval
  obtain ⟨v0, vs0, d0, ds0, p0, q0, hargs, rfl, rfl, h0, r0⟩ := trodAll_cons hA
  obtain ⟨v1, vs1, d1, ds1, p1, q1, rfl, rfl, rfl, h1, r1⟩ := trodAll_cons r0
  obtain ⟨v2, vs2, d2, ds2, p2, q2, rfl, rfl, rfl, h2, r2⟩ := trodAll_cons r1
  obtain ⟨v3, vs3, d3, ds3, p3, q3, rfl, rfl, rfl, h3, r3⟩ := trodAll_cons r2
  obtain ⟨rfl, rfl, rfl⟩ := trodAll_nil r3
  obtain rfl : args = #[v0, v1, v2, v3] := by cases args; simp_all
  obtain ⟨rfl, rfl⟩ := trodVars_none hV
  obtain ⟨s0, rfl, b0⟩ := open_struct ge_opens Try.underlying25 (hval 0 25 v0 rfl rfl) h0 (sz_of hsz 0 25 _ (by rw [Try.params4]; rfl) rfl)
  obtain ⟨s1, rfl, b1⟩ := open_struct plc_opens Try.underlying28 (hval 1 28 v1 rfl rfl) h1 (sz_of hsz 1 28 _ (by rw [Try.params4]; rfl) rfl)
  obtain ⟨l2, b2, c2, e2⟩ := open_ints' Try.underlying29 Try.underlying3 (by kernel_rfl) (by kernel_rfl) (hval 2 29 v2 rfl rfl) h2 (sz_of hsz 2 29 _ (by rw [Try.params4]; rfl) rfl)
  obtain ⟨l3, b3, e3, c3⟩ := open_slice ent_opens Try.underlying22 (by kernel_rfl : _ = 2) (by decide) EntS.cells_len (hval 3 22 v3 rfl rfl) h3 (sz_of hsz 3 22 _ (by rw [Try.params4]; rfl) rfl)
  have hcall : Calls Try.prog 4 #[(Pl.gv s0), (Pl.plv s1), v2, v3] W fun e w' => e = .returned (.bool true) ∧ Below W.heap.size W w' := Pl.ptells_walk s0 s1 v2 l2 v3 l3 W b2 (len44 c2) b3 (len1 c3)
  refine hcall.mono fun e W' ⟨he, hb⟩ => ?_
  subst he
  exact ⟨_, rfl, law_post laid0 (by kernel_rfl) rfl (by kernel_rfl) Try.underlying4 hW' rfl rfl rfl hb⟩

theorem over : Rows.planTellsRow.holds Try.pinned (OpenSpec.ofChange Rows.planTellsSpec) :=
  OpenClaim.holds_of_wide 4 Try.f4 rfl rfl rfl rfl rfl rfl rfl ⟨rfl, rfl, rfl, rfl, rfl⟩ rfl rfl rfl rfl rfl (by kernel_rfl) Try.func4 (by kernel_rfl)
    (of_decide_eq_true (by kernel_rfl)) (by unfold Func.isWrapper; first | (rw [if_pos (by decide +kernel)]; kernel_rfl) | (rw [if_neg (by decide +kernel)]; exact ⟨rfl, rfl⟩))
    (fun os started H enc _ => lifted os started H enc)

end Go.Proofs.Ythpnlgdcijmocaa.planTells
namespace Go.Proofs.Ythpnlgdcijmocaa
theorem planTells_proved : Rows.PlanTellsSaid := planTells.over
#print axioms planTells_proved
end Go.Proofs.Ythpnlgdcijmocaa
