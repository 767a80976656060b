/- For every list of octets and octet: 'DiskLoads' returns true. No condition. -/
import Derived.Test.YthpnlgdcijmocaaOpen
import Derived.Test.YthpnlgdcijmocaaDk19
import Derived.Test.YthpnlgdcijmocaaOBy
namespace Go.Proofs.Ythpnlgdcijmocaa.diskLoads
open Go.ChangeShapes Go.WideShapes Go.ChangeAt Go.RowKit Dk
set_option linter.unusedVariables false

set_option maxRecDepth 100000 in
theorem lifted (os : Os) (started : os.Started) (H : Type) (enc : TypeId × Value → H) :
    ReturnsInHanded {} Try.checked os 11 .any (Rows.diskLoadsSpec.pre6 enc Try.prog Try.f11 Rows.diskLoadsRow.domain false) (Rows.diskLoadsSpec.post enc Try.prog Try.f11 false true false false) := by
  refine returnsInHanded_of_change_sized (C := Try.checked) own0 started (by kernel_rfl) Try.func11
    (ChangeSpec.witness6 (enc := enc) (C := Try.checked) false ⟨#[], #[.slice none 0 0, .int .u8 0], []⟩ 8 (by kernel_rfl) (by kernel_rfl) (by kernel_rfl) (by kernel_rfl)) ?_
  intro W base args ds gs before hval0 hW hcnd hsz _
  have hval : ∀ (j : Nat) t v, Try.f11.params[j]? = some t → args[j]? = some v → Value.okWide Try.prog W .any base t v := hval0
  have hW' := hW
  obtain ⟨p, q, hA0, hV, rfl, hfz, hnd⟩ := hW
  have hA : DataW.TrodAll enc Try.prog W 0 (fun _ => true) true Try.f11.params.toList args.toList ds p := hA0
  rw [Try.params11] at hA hval
  obtain ⟨v0, vs0, d0, ds0, p0, q0, hargs, rfl, rfl, h0, r0⟩ := trodAll_cons hA
  obtain ⟨v1, vs1, d1, ds1, p1, q1, rfl, rfl, rfl, h1, r1⟩ := trodAll_cons r0
  obtain ⟨rfl, rfl, rfl⟩ := trodAll_nil r1
  obtain rfl : args = #[v0, v1] := by cases args; simp_all
  obtain ⟨rfl, rfl⟩ := trodVars_none hV
  obtain ⟨l0, b0, e0, c0⟩ := open_slice bytes_opens Try.underlying94 (by kernel_rfl : _ = 1) (by decide) (fun _ => rfl) (hval 0 94 v0 rfl rfl) h0 (sz_of hsz 0 94 _ (by rw [Try.params11]; rfl) rfl)
  obtain ⟨a1, rfl, rfl, rfl, w1⟩ := open_int Try.underlying5 (hval 1 5 v1 rfl rfl) h1
  have b1 : 0 ≤ a1 ∧ a1 ≤ 255 := by simpa [Lit.wf, IntKind.min, IntKind.max, IntKind.signed, IntKind.bits] using w1
  obtain ⟨n1, rfl⟩ := Int.eq_ofNat_of_zero_le b1.1
  have c1 : n1 < 256 := by omega
  have hcall : Calls Try.prog 11 #[v0, .int .u8 (n1 : Int)] W fun e w' => e = .returned (.bool true) ∧ Below W.heap.size W w' := by
    obtain ⟨ls, q1, q2, q3⟩ := slAt_open b0 e0
    obtain ⟨A, c, e, hc, _⟩ := b0
    have hby : Try.prog.bytesOf 78 = 24 := by kernel_rfl
    have hr : reachBytes = 140737488351232 := by decide
    rw [hby, hr] at c0
    exact Dk.loads_walk n1 c1 v0 ls W q2 ⟨A, c, by rw [e, q1], by omega⟩ q3 (by omega)
  refine hcall.mono fun e W' ⟨he, hb⟩ => ?_
  subst he
  exact ⟨_, rfl, law_post laid0 (by kernel_rfl) rfl (by kernel_rfl) Try.underlying4 hW' rfl rfl rfl hb⟩

theorem over : Rows.diskLoadsRow.holds Try.pinned (OpenSpec.ofChange Rows.diskLoadsSpec) :=
  OpenClaim.holds_of_wide 11 Try.f11 rfl rfl rfl rfl rfl rfl rfl ⟨rfl, rfl, rfl, rfl, rfl⟩ rfl rfl rfl rfl rfl (by kernel_rfl) Try.func11 (by kernel_rfl)
    (of_decide_eq_true (by kernel_rfl)) (by unfold Func.isWrapper; first | (rw [if_pos (by decide +kernel)]; kernel_rfl) | (rw [if_neg (by decide +kernel)]; exact ⟨rfl, rfl⟩))
    (fun os started H enc _ => lifted os started H enc)

end Go.Proofs.Ythpnlgdcijmocaa.diskLoads
namespace Go.Proofs.Ythpnlgdcijmocaa
theorem diskLoads_proved : Rows.DiskLoadsSaid := diskLoads.over
#print axioms diskLoads_proved
end Go.Proofs.Ythpnlgdcijmocaa
