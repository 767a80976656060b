/- For every point, window and list of points: 'ModelNobody' returns true. No condition. -/
import Derived.Test.YtdomngpkahgoiaaOpen
import Derived.Test.YtdomngpkahgoiaaMd5
import Derived.Test.YtdomngpkahgoiaaOPt
import Derived.Test.YtdomngpkahgoiaaORc
namespace Go.Proofs.Ytdomngpkahgoiaa.modelNobody
open Go.ChangeShapes Go.WideShapes Go.ChangeAt Go.RowKit 
set_option linter.unusedVariables false

set_option maxRecDepth 100000 in
theorem lifted (os : Os) (started : os.Started) (H : Type) (enc : TypeId × Value → H) :
    ReturnsInHanded {} Try.checked os 8 .any (Rows.modelNobodySpec.pre6 enc Try.prog Try.f8 Rows.modelNobodyRow.domain false) (Rows.modelNobodySpec.post enc Try.prog Try.f8 false true false false) := by
  refine returnsInHanded_of_change_sized (C := Try.checked) own0 started (by kernel_rfl) Try.func8
    (ChangeSpec.witness6 (enc := enc) (C := Try.checked) false ⟨#[], #[(.agg #[.int .i64 0, .int .u32 0, .int .u32 0, .string ⟨#[]⟩]), (.agg #[.int .u32 0, .int .u32 0, .int .u32 0, .int .u32 0]), .slice none 0 0], []⟩ 8 (by kernel_rfl) (by kernel_rfl) (by kernel_rfl) (by kernel_rfl)) ?_
  intro W base args ds gs before hval0 hW hcnd hsz _
  have hval : ∀ (j : Nat) t v, Try.f8.params[j]? = some t → args[j]? = some v → Value.okWide Try.prog W .any base t v := hval0
  have hW' := hW
  obtain ⟨p, q, hA0, hV, rfl, hfz, hnd⟩ := hW
  have hA : DataW.TrodAll enc Try.prog W 0 (fun _ => true) true Try.f8.params.toList args.toList ds p := hA0
  rw [Try.params8] at hA hval
  obtain ⟨v0, vs0, d0, ds0, p0, q0, hargs, rfl, rfl, h0, r0⟩ := trodAll_cons hA
  obtain ⟨v1, vs1, d1, ds1, p1, q1, rfl, rfl, rfl, h1, r1⟩ := trodAll_cons r0
  obtain ⟨v2, vs2, d2, ds2, p2, q2, rfl, rfl, rfl, h2, r2⟩ := trodAll_cons r1
  obtain ⟨rfl, rfl, rfl⟩ := trodAll_nil r2
  obtain rfl : args = #[v0, v1, v2] := by cases args; simp_all
  obtain ⟨rfl, rfl⟩ := trodVars_none hV
  obtain ⟨s0, rfl, b0⟩ := open_struct pt_opens Try.underlying56 (hval 0 56 v0 rfl rfl) h0 (sz_of hsz 0 56 _ (by rw [Try.params8]; rfl) rfl)
  obtain ⟨s1, rfl, b1⟩ := open_struct rc_opens Try.underlying24 (hval 1 24 v1 rfl rfl) h1 (sz_of hsz 1 24 _ (by rw [Try.params8]; rfl) rfl)
  obtain ⟨l2, b2, e2, c2⟩ := open_slice pt_opens Try.underlying49 (by kernel_rfl : _ = 4) (by decide) Pt.PtS.cells_len (hval 2 49 v2 rfl rfl) h2 (sz_of hsz 2 49 _ (by rw [Try.params8]; rfl) rfl)
  have hcall : Calls Try.prog 8 #[(Pt.pv s0), (Ti.rcv s1), v2] W fun e w' => e = .returned (.bool true) ∧ Below W.heap.size W w' := Md.nobody_walk s0 s1 v2 l2 W b2 (by have hc := c2; rw [show Try.prog.bytesOf 56 = 32 from by kernel_rfl, show reachBytes = 140737488351232 from by decide] at hc; omega)
  refine hcall.mono fun e W' ⟨he, hb⟩ => ?_
  subst he
  exact ⟨_, rfl, law_post laid0 (by kernel_rfl) rfl (by kernel_rfl) Try.underlying4 hW' rfl rfl rfl hb⟩

theorem over : Rows.modelNobodyRow.holds Try.pinned (OpenSpec.ofChange Rows.modelNobodySpec) :=
  OpenClaim.holds_of_wide 8 Try.f8 rfl rfl rfl rfl rfl rfl rfl ⟨rfl, rfl, rfl, rfl, rfl⟩ rfl rfl rfl rfl rfl (by kernel_rfl) Try.func8 (by kernel_rfl)
    (of_decide_eq_true (by kernel_rfl)) (by unfold Func.isWrapper; first | (rw [if_pos (by decide +kernel)]; kernel_rfl) | (rw [if_neg (by decide +kernel)]; exact ⟨rfl, rfl⟩))
    (fun os started H enc _ => lifted os started H enc)

end Go.Proofs.Ytdomngpkahgoiaa.modelNobody
namespace Go.Proofs.Ytdomngpkahgoiaa
theorem modelNobody_proved : Rows.ModelNobodySaid := modelNobody.over
#print axioms modelNobody_proved
end Go.Proofs.Ytdomngpkahgoiaa
