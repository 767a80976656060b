/- For every geometry, place, free segments and number: 'PlanRoom' returns true. No condition. -/
import Derived.Test.YthpnlgdcijmocaaOpen
import Derived.Test.YthpnlgdcijmocaaPl11
import Derived.Test.YthpnlgdcijmocaaOPl
namespace Go.Proofs.Ythpnlgdcijmocaa.planRoom
open Go.ChangeShapes Go.WideShapes Go.ChangeAt Go.RowKit 
set_option linter.unusedVariables false

set_option maxRecDepth 100000 in
theorem lifted (os : Os) (started : os.Started) (H : Type) (enc : TypeId × Value → H) :
    ReturnsInHanded {} Try.checked os 5 .any (Rows.planRoomSpec.pre6 enc Try.prog Try.f5 Rows.planRoomRow.domain false) (Rows.planRoomSpec.post enc Try.prog Try.f5 false true false false) := by
  refine returnsInHanded_of_change_sized (C := Try.checked) own0 started (by kernel_rfl) Try.func5
    (ChangeSpec.witness6 (enc := enc) (C := Try.checked) false ⟨#[], #[(.agg #[.int .i64 0, .int .i64 0]), (.agg #[.int .i64 0, .int .i64 0, .int .i64 0]), .slice none 0 0, .int .u8 0], []⟩ 8 (by kernel_rfl) (by kernel_rfl) (by kernel_rfl) (by kernel_rfl)) ?_
  intro W base args ds gs before hval0 hW hcnd hsz _
  have hval : ∀ (j : Nat) t v, Try.f5.params[j]? = some t → args[j]? = some v → Value.okWide Try.prog W .any base t v := hval0
  have hW' := hW
  obtain ⟨p, q, hA0, hV, rfl, hfz, hnd⟩ := hW
  have hA : DataW.TrodAll enc Try.prog W 0 (fun _ => true) true Try.f5.params.toList args.toList ds p := hA0
  rw [Try.params5] at hA hval
  obtain ⟨v0, vs0, d0, ds0, p0, q0, hargs, rfl, rfl, h0, r0⟩ := trodAll_cons hA
  obtain ⟨v1, vs1, d1, ds1, p1, q1, rfl, rfl, rfl, h1, r1⟩ := trodAll_cons r0
  obtain ⟨v2, vs2, d2, ds2, p2, q2, rfl, rfl, rfl, h2, r2⟩ := trodAll_cons r1
  obtain ⟨v3, vs3, d3, ds3, p3, q3, rfl, rfl, rfl, h3, r3⟩ := trodAll_cons r2
  obtain ⟨rfl, rfl, rfl⟩ := trodAll_nil r3
  obtain rfl : args = #[v0, v1, v2, v3] := by cases args; simp_all
  obtain ⟨rfl, rfl⟩ := trodVars_none hV
  obtain ⟨s0, rfl, b0⟩ := open_struct ge_opens Try.underlying25 (hval 0 25 v0 rfl rfl) h0 (sz_of hsz 0 25 _ (by rw [Try.params5]; rfl) rfl)
  obtain ⟨s1, rfl, b1⟩ := open_struct plc_opens Try.underlying28 (hval 1 28 v1 rfl rfl) h1 (sz_of hsz 1 28 _ (by rw [Try.params5]; rfl) rfl)
  obtain ⟨l2, b2, c2, e2⟩ := open_ints' Try.underlying29 Try.underlying3 (by kernel_rfl) (by kernel_rfl) (hval 2 29 v2 rfl rfl) h2 (sz_of hsz 2 29 _ (by rw [Try.params5]; rfl) rfl)
  obtain ⟨a3, rfl, rfl, rfl, w3⟩ := open_int Try.underlying5 (hval 3 5 v3 rfl rfl) h3
  have b3 : 0 ≤ a3 ∧ a3 ≤ 255 := by simpa [Lit.wf, IntKind.min, IntKind.max, IntKind.signed, IntKind.bits] using w3
  obtain ⟨n3, rfl⟩ := Int.eq_ofNat_of_zero_le b3.1
  have c3 : n3 < 256 := by omega
  have hcall : Calls Try.prog 5 #[(Pl.gv s0), (Pl.plv s1), v2, .int .u8 (n3 : Int)] W fun e w' => e = .returned (.bool true) ∧ Below W.heap.size W w' := Pl.proom_walk s0 s1 v2 l2 n3 W b2 (len44 c2) c3
  refine hcall.mono fun e W' ⟨he, hb⟩ => ?_
  subst he
  exact ⟨_, rfl, law_post laid0 (by kernel_rfl) rfl (by kernel_rfl) Try.underlying4 hW' rfl rfl rfl hb⟩

theorem over : Rows.planRoomRow.holds Try.pinned (OpenSpec.ofChange Rows.planRoomSpec) :=
  OpenClaim.holds_of_wide 5 Try.f5 rfl rfl rfl rfl rfl rfl rfl ⟨rfl, rfl, rfl, rfl, rfl⟩ rfl rfl rfl rfl rfl (by kernel_rfl) Try.func5 (by kernel_rfl)
    (of_decide_eq_true (by kernel_rfl)) (by unfold Func.isWrapper; first | (rw [if_pos (by decide +kernel)]; kernel_rfl) | (rw [if_neg (by decide +kernel)]; exact ⟨rfl, rfl⟩))
    (fun os started H enc _ => lifted os started H enc)

end Go.Proofs.Ythpnlgdcijmocaa.planRoom
namespace Go.Proofs.Ythpnlgdcijmocaa
theorem planRoom_proved : Rows.PlanRoomSaid := planRoom.over
#print axioms planRoom_proved
end Go.Proofs.Ythpnlgdcijmocaa
