/- For every two octets and fates: 'DiskSure' returns true. No condition. -/
import Derived.Test.YthpnlgdcijmocaaOpen
import Derived.Test.YthpnlgdcijmocaaDk14
import Derived.Test.YthpnlgdcijmocaaOIv
namespace Go.Proofs.Ythpnlgdcijmocaa.diskSure
open Go.ChangeShapes Go.WideShapes Go.ChangeAt Go.RowKit Dk
set_option linter.unusedVariables false

set_option maxRecDepth 100000 in
theorem lifted (os : Os) (started : os.Started) (H : Type) (enc : TypeId × Value → H) :
    ReturnsInHanded {} Try.checked os 10 .any (Rows.diskSureSpec.pre6 enc Try.prog Try.f10 Rows.diskSureRow.domain false) (Rows.diskSureSpec.post enc Try.prog Try.f10 false true false false) := by
  refine returnsInHanded_of_change_sized (C := Try.checked) own0 started (by kernel_rfl) Try.func10
    (ChangeSpec.witness6 (enc := enc) (C := Try.checked) false ⟨#[], #[.int .u8 0, .int .u8 0, .slice none 0 0, .slice none 0 0], []⟩ 8 (by kernel_rfl) (by kernel_rfl) (by kernel_rfl) (by kernel_rfl)) ?_
  intro W base args ds gs before hval0 hW hcnd hsz _
  have hval : ∀ (j : Nat) t v, Try.f10.params[j]? = some t → args[j]? = some v → Value.okWide Try.prog W .any base t v := hval0
  have hW' := hW
  obtain ⟨p, q, hA0, hV, rfl, hfz, hnd⟩ := hW
  have hA : DataW.TrodAll enc Try.prog W 0 (fun _ => true) true Try.f10.params.toList args.toList ds p := hA0
  rw [Try.params10] at hA hval
  obtain ⟨v0, vs0, d0, ds0, p0, q0, hargs, rfl, rfl, h0, r0⟩ := trodAll_cons hA
  obtain ⟨v1, vs1, d1, ds1, p1, q1, rfl, rfl, rfl, h1, r1⟩ := trodAll_cons r0
  obtain ⟨v2, vs2, d2, ds2, p2, q2, rfl, rfl, rfl, h2, r2⟩ := trodAll_cons r1
  obtain ⟨v3, vs3, d3, ds3, p3, q3, rfl, rfl, rfl, h3, r3⟩ := trodAll_cons r2
  obtain ⟨rfl, rfl, rfl⟩ := trodAll_nil r3
  obtain rfl : args = #[v0, v1, v2, v3] := by cases args; simp_all
  obtain ⟨rfl, rfl⟩ := trodVars_none hV
  obtain ⟨a0, rfl, rfl, rfl, w0⟩ := open_int Try.underlying5 (hval 0 5 v0 rfl rfl) h0
  have b0 : 0 ≤ a0 ∧ a0 ≤ 255 := by simpa [Lit.wf, IntKind.min, IntKind.max, IntKind.signed, IntKind.bits] using w0
  obtain ⟨n0, rfl⟩ := Int.eq_ofNat_of_zero_le b0.1
  have c0 : n0 < 256 := by omega
  obtain ⟨a1, rfl, rfl, rfl, w1⟩ := open_int Try.underlying5 (hval 1 5 v1 rfl rfl) h1
  have b1 : 0 ≤ a1 ∧ a1 ≤ 255 := by simpa [Lit.wf, IntKind.min, IntKind.max, IntKind.signed, IntKind.bits] using w1
  obtain ⟨n1, rfl⟩ := Int.eq_ofNat_of_zero_le b1.1
  have c1 : n1 < 256 := by omega
  obtain ⟨l2, b2, c2, e2⟩ := open_ints' Try.underlying29 Try.underlying3 (by kernel_rfl) (by kernel_rfl) (hval 2 29 v2 rfl rfl) h2 (sz_of hsz 2 29 _ (by rw [Try.params10]; rfl) rfl)
  obtain ⟨l3, b3, c3, e3⟩ := open_ints' Try.underlying29 Try.underlying3 (by kernel_rfl) (by kernel_rfl) (hval 3 29 v3 rfl rfl) h3 (sz_of hsz 3 29 _ (by rw [Try.params10]; rfl) rfl)
  have hcall : Calls Try.prog 10 #[.int .u8 (n0 : Int), .int .u8 (n1 : Int), v2, v3] W fun e w' => e = .returned (.bool true) ∧ Below W.heap.size W w' := Dk.sure_walk n0 n1 c0 c1 v2 v3 l2 l3 W b2 (by unfold reachBytes at c2; omega) (fun x hx => e2 x hx) b3 (by unfold reachBytes at c3; omega) (fun x hx => e3 x hx)
  refine hcall.mono fun e W' ⟨he, hb⟩ => ?_
  subst he
  exact ⟨_, rfl, law_post laid0 (by kernel_rfl) rfl (by kernel_rfl) Try.underlying4 hW' rfl rfl rfl hb⟩

theorem over : Rows.diskSureRow.holds Try.pinned (OpenSpec.ofChange Rows.diskSureSpec) :=
  OpenClaim.holds_of_wide 10 Try.f10 rfl rfl rfl rfl rfl rfl rfl ⟨rfl, rfl, rfl, rfl, rfl⟩ rfl rfl rfl rfl rfl (by kernel_rfl) Try.func10 (by kernel_rfl)
    (of_decide_eq_true (by kernel_rfl)) (by unfold Func.isWrapper; first | (rw [if_pos (by decide +kernel)]; kernel_rfl) | (rw [if_neg (by decide +kernel)]; exact ⟨rfl, rfl⟩))
    (fun os started H enc _ => lifted os started H enc)

end Go.Proofs.Ythpnlgdcijmocaa.diskSure
namespace Go.Proofs.Ythpnlgdcijmocaa
theorem diskSure_proved : Rows.DiskSureSaid := diskSure.over
#print axioms diskSure_proved
end Go.Proofs.Ythpnlgdcijmocaa
