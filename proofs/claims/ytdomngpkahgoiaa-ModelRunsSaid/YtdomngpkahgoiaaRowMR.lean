/- For every list of points, calls, window, place and number: 'ModelRuns' returns true. No condition. -/
import Derived.Test.YtdomngpkahgoiaaOpen
import Derived.Test.YtdomngpkahgoiaaMd7
import Derived.Test.YtdomngpkahgoiaaOOp
import Derived.Test.YtdomngpkahgoiaaORc
namespace Go.Proofs.Ytdomngpkahgoiaa.modelRuns
open Go.ChangeShapes Go.WideShapes Go.ChangeAt Go.RowKit 
set_option linter.unusedVariables false

set_option maxRecDepth 100000 in
theorem lifted (os : Os) (started : os.Started) (H : Type) (enc : TypeId × Value → H) :
    ReturnsInHanded {} Try.checked os 7 .any (Rows.modelRunsSpec.pre6 enc Try.prog Try.f7 Rows.modelRunsRow.domain false) (Rows.modelRunsSpec.post enc Try.prog Try.f7 false true false false) := by
  refine returnsInHanded_of_change_sized (C := Try.checked) own0 started (by kernel_rfl) Try.func7
    (ChangeSpec.witness6 (enc := enc) (C := Try.checked) false ⟨#[], #[.slice none 0 0, .slice none 0 0, (.agg #[.int .u32 0, .int .u32 0, .int .u32 0, .int .u32 0]), .int .u32 0, .int .u32 0, .int .i64 0], []⟩ 8 (by kernel_rfl) (by kernel_rfl) (by kernel_rfl) (by kernel_rfl)) ?_
  intro W base args ds gs before hval0 hW hcnd hsz _
  have hval : ∀ (j : Nat) t v, Try.f7.params[j]? = some t → args[j]? = some v → Value.okWide Try.prog W .any base t v := hval0
  have hW' := hW
  obtain ⟨p, q, hA0, hV, rfl, hfz, hnd⟩ := hW
  have hA : DataW.TrodAll enc Try.prog W 0 (fun _ => true) true Try.f7.params.toList args.toList ds p := hA0
  rw [Try.params7] at hA hval
  obtain ⟨v0, vs0, d0, ds0, p0, q0, hargs, rfl, rfl, h0, r0⟩ := trodAll_cons hA
  obtain ⟨v1, vs1, d1, ds1, p1, q1, rfl, rfl, rfl, h1, r1⟩ := trodAll_cons r0
  obtain ⟨v2, vs2, d2, ds2, p2, q2, rfl, rfl, rfl, h2, r2⟩ := trodAll_cons r1
  obtain ⟨v3, vs3, d3, ds3, p3, q3, rfl, rfl, rfl, h3, r3⟩ := trodAll_cons r2
  obtain ⟨v4, vs4, d4, ds4, p4, q4, rfl, rfl, rfl, h4, r4⟩ := trodAll_cons r3
  obtain ⟨v5, vs5, d5, ds5, p5, q5, rfl, rfl, rfl, h5, r5⟩ := trodAll_cons r4
  obtain ⟨rfl, rfl, rfl⟩ := trodAll_nil r5
  obtain rfl : args = #[v0, v1, v2, v3, v4, v5] := by cases args; simp_all
  obtain ⟨rfl, rfl⟩ := trodVars_none hV
  obtain ⟨l0, b0, e0, c0⟩ := open_slice pt_opens Try.underlying49 (by kernel_rfl : _ = 4) (by decide) Pt.PtS.cells_len (hval 0 49 v0 rfl rfl) h0 (sz_of hsz 0 49 _ (by rw [Try.params7]; rfl) rfl)
  obtain ⟨l1, b1, e1, c1⟩ := open_slice op_opens Try.underlying50 (by kernel_rfl : _ = 5) (by decide) Md.OpS.cells_len (hval 1 50 v1 rfl rfl) h1 (sz_of hsz 1 50 _ (by rw [Try.params7]; rfl) rfl)
  obtain ⟨s2, rfl, b2⟩ := open_struct rc_opens Try.underlying24 (hval 2 24 v2 rfl rfl) h2 (sz_of hsz 2 24 _ (by rw [Try.params7]; rfl) rfl)
  obtain ⟨a3, rfl, rfl, rfl, w3⟩ := open_int Try.underlying22 (hval 3 22 v3 rfl rfl) h3
  have b3 : 0 ≤ a3 ∧ a3 ≤ 4294967295 := by simpa [Lit.wf, IntKind.min, IntKind.max, IntKind.signed, IntKind.bits] using w3
  obtain ⟨n3, rfl⟩ := Int.eq_ofNat_of_zero_le b3.1
  have c3 : n3 < 4294967296 := by omega
  obtain ⟨a4, rfl, rfl, rfl, w4⟩ := open_int Try.underlying22 (hval 4 22 v4 rfl rfl) h4
  have b4 : 0 ≤ a4 ∧ a4 ≤ 4294967295 := by simpa [Lit.wf, IntKind.min, IntKind.max, IntKind.signed, IntKind.bits] using w4
  obtain ⟨n4, rfl⟩ := Int.eq_ofNat_of_zero_le b4.1
  have c4 : n4 < 4294967296 := by omega
  obtain ⟨a5, rfl, rfl, rfl, w5⟩ := open_int Try.underlying3 (hval 5 3 v5 rfl rfl) h5
  have b5 : -9223372036854775808 ≤ a5 ∧ a5 ≤ 9223372036854775807 := by simpa [Lit.wf, IntKind.min, IntKind.max, IntKind.signed, IntKind.bits] using w5
  have hcall : Calls Try.prog 7 #[v0, v1, (Ti.rcv s2), .int .u32 (n3 : Int), .int .u32 (n4 : Int), .int .i64 a5] W fun e w' => e = .returned (.bool true) ∧ Below W.heap.size W w' := Md.runs_walk v0 l0 v1 l1 s2 n3 n4 a5 W b0 (by have hc := c0; rw [show Try.prog.bytesOf 56 = 32 from by kernel_rfl, show reachBytes = 140737488351232 from by decide] at hc; omega) e0 b1 (by have hc := c1; rw [show Try.prog.bytesOf 58 = 40 from by kernel_rfl, show reachBytes = 140737488351232 from by decide] at hc; omega) e1 c3 c4 b5
  refine hcall.mono fun e W' ⟨he, hb⟩ => ?_
  subst he
  exact ⟨_, rfl, law_post laid0 (by kernel_rfl) rfl (by kernel_rfl) Try.underlying4 hW' rfl rfl rfl hb⟩

theorem over : Rows.modelRunsRow.holds Try.pinned (OpenSpec.ofChange Rows.modelRunsSpec) :=
  OpenClaim.holds_of_wide 7 Try.f7 rfl rfl rfl rfl rfl rfl rfl ⟨rfl, rfl, rfl, rfl, rfl⟩ rfl rfl rfl rfl rfl (by kernel_rfl) Try.func7 (by kernel_rfl)
    (of_decide_eq_true (by kernel_rfl)) (by unfold Func.isWrapper; first | (rw [if_pos (by decide +kernel)]; kernel_rfl) | (rw [if_neg (by decide +kernel)]; exact ⟨rfl, rfl⟩))
    (fun os started H enc _ => lifted os started H enc)

end Go.Proofs.Ytdomngpkahgoiaa.modelRuns
namespace Go.Proofs.Ytdomngpkahgoiaa
theorem modelRuns_proved : Rows.ModelRunsSaid := modelRuns.over
#print axioms modelRuns_proved
end Go.Proofs.Ytdomngpkahgoiaa
