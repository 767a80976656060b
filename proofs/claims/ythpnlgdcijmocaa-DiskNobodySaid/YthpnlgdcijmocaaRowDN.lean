/- For every number, octets and fates: 'DiskNobody' returns true. No condition. -/
import Derived.Test.YthpnlgdcijmocaaOpen
import Derived.Test.YthpnlgdcijmocaaDk16
import Derived.Test.YthpnlgdcijmocaaOIv
namespace Go.Proofs.Ythpnlgdcijmocaa.diskNobody
open Go.ChangeShapes Go.WideShapes Go.ChangeAt Go.RowKit Dk
set_option linter.unusedVariables false

set_option maxRecDepth 100000 in
theorem lifted (os : Os) (started : os.Started) (H : Type) (enc : TypeId × Value → H) :
    ReturnsInHanded {} Try.checked os 14 .any (Rows.diskNobodySpec.pre6 enc Try.prog Try.f14 Rows.diskNobodyRow.domain false) (Rows.diskNobodySpec.post enc Try.prog Try.f14 false true false false) := by
  refine returnsInHanded_of_change_sized (C := Try.checked) own0 started (by kernel_rfl) Try.func14
    (ChangeSpec.witness6 (enc := enc) (C := Try.checked) false ⟨#[], #[.int .i64 0, .slice none 0 0, .slice none 0 0], []⟩ 8 (by kernel_rfl) (by kernel_rfl) (by kernel_rfl) (by kernel_rfl)) ?_
  intro W base args ds gs before hval0 hW hcnd hsz _
  have hval : ∀ (j : Nat) t v, Try.f14.params[j]? = some t → args[j]? = some v → Value.okWide Try.prog W .any base t v := hval0
  have hW' := hW
  obtain ⟨p, q, hA0, hV, rfl, hfz, hnd⟩ := hW
  have hA : DataW.TrodAll enc Try.prog W 0 (fun _ => true) true Try.f14.params.toList args.toList ds p := hA0
  rw [Try.params14] at hA hval
  obtain ⟨v0, vs0, d0, ds0, p0, q0, hargs, rfl, rfl, h0, r0⟩ := trodAll_cons hA
  obtain ⟨v1, vs1, d1, ds1, p1, q1, rfl, rfl, rfl, h1, r1⟩ := trodAll_cons r0
  obtain ⟨v2, vs2, d2, ds2, p2, q2, rfl, rfl, rfl, h2, r2⟩ := trodAll_cons r1
  obtain ⟨rfl, rfl, rfl⟩ := trodAll_nil r2
  obtain rfl : args = #[v0, v1, v2] := by cases args; simp_all
  obtain ⟨rfl, rfl⟩ := trodVars_none hV
  obtain ⟨a0, rfl, rfl, rfl, w0⟩ := open_int Try.underlying3 (hval 0 3 v0 rfl rfl) h0
  have b0 : -9223372036854775808 ≤ a0 ∧ a0 ≤ 9223372036854775807 := by simpa [Lit.wf, IntKind.min, IntKind.max, IntKind.signed, IntKind.bits] using w0
  obtain ⟨l1, b1, c1⟩ := open_bytes Try.underlying78 Try.underlying5 (by kernel_rfl) (by kernel_rfl) (hval 1 78 v1 rfl rfl) h1 (sz_of hsz 1 78 _ (by rw [Try.params14]; rfl) rfl)
  obtain ⟨l2, b2, c2, e2⟩ := open_ints' Try.underlying29 Try.underlying3 (by kernel_rfl) (by kernel_rfl) (hval 2 29 v2 rfl rfl) h2 (sz_of hsz 2 29 _ (by rw [Try.params14]; rfl) rfl)
  have hcall : Calls Try.prog 14 #[.int .i64 a0, v1, v2] W fun e w' => e = .returned (.bool true) ∧ Below W.heap.size W w' := Dk.nobody_walk a0 v1 v2 W (by obtain ⟨A, c, h, _⟩ := b1; exact ⟨_, _, _, h⟩) (by obtain ⟨A, c, h, _⟩ := b2; exact ⟨_, _, _, h⟩)
  refine hcall.mono fun e W' ⟨he, hb⟩ => ?_
  subst he
  exact ⟨_, rfl, law_post laid0 (by kernel_rfl) rfl (by kernel_rfl) Try.underlying4 hW' rfl rfl rfl hb⟩

theorem over : Rows.diskNobodyRow.holds Try.pinned (OpenSpec.ofChange Rows.diskNobodySpec) :=
  OpenClaim.holds_of_wide 14 Try.f14 rfl rfl rfl rfl rfl rfl rfl ⟨rfl, rfl, rfl, rfl, rfl⟩ rfl rfl rfl rfl rfl (by kernel_rfl) Try.func14 (by kernel_rfl)
    (of_decide_eq_true (by kernel_rfl)) (by unfold Func.isWrapper; first | (rw [if_pos (by decide +kernel)]; kernel_rfl) | (rw [if_neg (by decide +kernel)]; exact ⟨rfl, rfl⟩))
    (fun os started H enc _ => lifted os started H enc)

end Go.Proofs.Ythpnlgdcijmocaa.diskNobody
namespace Go.Proofs.Ythpnlgdcijmocaa
theorem diskNobody_proved : Rows.DiskNobodySaid := diskNobody.over
#print axioms diskNobody_proved
end Go.Proofs.Ythpnlgdcijmocaa
