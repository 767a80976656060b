/- For every two nodes and octets: 'NodeTells' returns true. No condition. -/
import Derived.Test.YthpnlgdcijmocaaOpen
import Derived.Test.YthpnlgdcijmocaaNd15
import Derived.Test.YthpnlgdcijmocaaONd
namespace Go.Proofs.Ythpnlgdcijmocaa.nodeTells
open Go.ChangeShapes Go.WideShapes Go.ChangeAt Go.RowKit 
set_option linter.unusedVariables false

set_option maxRecDepth 100000 in
theorem lifted (os : Os) (started : os.Started) (H : Type) (enc : TypeId × Value → H) :
    ReturnsInHanded {} Try.checked os 12 .any (Rows.nodeTellsSpec.pre6 enc Try.prog Try.f12 Rows.nodeTellsRow.domain false) (Rows.nodeTellsSpec.post enc Try.prog Try.f12 false true false false) := by
  refine returnsInHanded_of_change_sized (C := Try.checked) own0 started (by kernel_rfl) Try.func12
    (ChangeSpec.witness6 (enc := enc) (C := Try.checked) false ⟨#[], #[(.agg #[.bool false, .slice none 0 0, .int .i64 0, .int .i64 0, .int .i64 0, .int .i64 0, .int .i64 0, .int .i64 0, .int .i64 0, .int .i64 0, .int .i64 0]), (.agg #[.bool false, .slice none 0 0, .int .i64 0, .int .i64 0, .int .i64 0, .int .i64 0, .int .i64 0, .int .i64 0, .int .i64 0, .int .i64 0, .int .i64 0]), .slice none 0 0], []⟩ 8 (by kernel_rfl) (by kernel_rfl) (by kernel_rfl) (by kernel_rfl)) ?_
  intro W base args ds gs before hval0 hW hcnd hsz _
  have hval : ∀ (j : Nat) t v, Try.f12.params[j]? = some t → args[j]? = some v → Value.okWide Try.prog W .any base t v := hval0
  have hW' := hW
  obtain ⟨p, q, hA0, hV, rfl, hfz, hnd⟩ := hW
  have hA : DataW.TrodAll enc Try.prog W 0 (fun _ => true) true Try.f12.params.toList args.toList ds p := hA0
  rw [Try.params12] at hA hval
  obtain ⟨v0, vs0, d0, ds0, p0, q0, hargs, rfl, rfl, h0, r0⟩ := trodAll_cons hA
  obtain ⟨v1, vs1, d1, ds1, p1, q1, rfl, rfl, rfl, h1, r1⟩ := trodAll_cons r0
  obtain ⟨v2, vs2, d2, ds2, p2, q2, rfl, rfl, rfl, h2, r2⟩ := trodAll_cons r1
  obtain ⟨rfl, rfl, rfl⟩ := trodAll_nil r2
  obtain rfl : args = #[v0, v1, v2] := by cases args; simp_all
  obtain ⟨rfl, rfl⟩ := trodVars_none hV
  obtain ⟨s0, rfl, b0⟩ := open_struct nd_opens Try.underlying49 (hval 0 49 v0 rfl rfl) h0 (sz_of hsz 0 49 _ (by rw [Try.params12]; rfl) rfl)
  obtain ⟨s1, rfl, b1⟩ := open_struct nd_opens Try.underlying49 (hval 1 49 v1 rfl rfl) h1 (sz_of hsz 1 49 _ (by rw [Try.params12]; rfl) rfl)
  obtain ⟨l2, b2, c2⟩ := open_bytes Try.underlying78 Try.underlying5 (by kernel_rfl) (by kernel_rfl) (hval 2 78 v2 rfl rfl) h2 (sz_of hsz 2 78 _ (by rw [Try.params12]; rfl) rfl)
  have hcall : Calls Try.prog 12 #[(Nd.nv s0), (Nd.nv s1), v2] W fun e w' => e = .returned (.bool true) ∧ Below W.heap.size W w' := Nd.ntells_walk s0 s1 v2 l2 W b0.2.2.2.1 b0.2.2.2.2.1 (by have := b0.2.2.2.2.2; omega) b1.2.2.2.1 (by have := b1.2.2.2.2.2; omega) b2 (Nat.le_trans c2 (by decide))
  refine hcall.mono fun e W' ⟨he, hb⟩ => ?_
  subst he
  exact ⟨_, rfl, law_post laid0 (by kernel_rfl) rfl (by kernel_rfl) Try.underlying4 hW' rfl rfl rfl hb⟩

theorem over : Rows.nodeTellsRow.holds Try.pinned (OpenSpec.ofChange Rows.nodeTellsSpec) :=
  OpenClaim.holds_of_wide 12 Try.f12 rfl rfl rfl rfl rfl rfl rfl ⟨rfl, rfl, rfl, rfl, rfl⟩ rfl rfl rfl rfl rfl (by kernel_rfl) Try.func12 (by kernel_rfl)
    (of_decide_eq_true (by kernel_rfl)) (by unfold Func.isWrapper; first | (rw [if_pos (by decide +kernel)]; kernel_rfl) | (rw [if_neg (by decide +kernel)]; exact ⟨rfl, rfl⟩))
    (fun os started H enc _ => lifted os started H enc)

end Go.Proofs.Ythpnlgdcijmocaa.nodeTells
namespace Go.Proofs.Ythpnlgdcijmocaa
theorem nodeTells_proved : Rows.NodeTellsSaid := nodeTells.over
#print axioms nodeTells_proved
end Go.Proofs.Ythpnlgdcijmocaa
