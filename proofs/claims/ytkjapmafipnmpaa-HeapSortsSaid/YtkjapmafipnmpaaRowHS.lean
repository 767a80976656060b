/- For every list of items and two items: 'HeapSorts' returns true. No condition. -/
import Derived.Test.YtkjapmafipnmpaaOpen
import Derived.Test.YtkjapmafipnmpaaH11
import Derived.Test.YtkjapmafipnmpaaOIt
namespace Go.Proofs.Ytkjapmafipnmpaa.heapSorts
open Go.ChangeShapes Go.WideShapes Go.ChangeAt Go.RowKit 
set_option linter.unusedVariables false

set_option maxRecDepth 100000 in
theorem lifted (os : Os) (started : os.Started) (H : Type) (enc : TypeId × Value → H) :
    ReturnsInHanded {} Try.checked os 14 .any (Rows.heapSortsSpec.pre6 enc Try.prog Try.f14 Rows.heapSortsRow.domain false) (Rows.heapSortsSpec.post enc Try.prog Try.f14 false true false false) := by
  refine returnsInHanded_of_change_sized (C := Try.checked) own0 started (by kernel_rfl) Try.func14
    (ChangeSpec.witness6 (enc := enc) (C := Try.checked) false ⟨#[], #[.slice none 0 0, (.agg #[.int .u64 0, .int .u64 0, .int .i64 0, .int .i64 0]), (.agg #[.int .u64 0, .int .u64 0, .int .i64 0, .int .i64 0])], []⟩ 8 (by kernel_rfl) (by kernel_rfl) (by kernel_rfl) (by kernel_rfl)) ?_
  intro W base args ds gs before hval0 hW hcnd hsz _
  have hval : ∀ (j : Nat) t v, Try.f14.params[j]? = some t → args[j]? = some v → Value.okWide Try.prog W .any base t v := hval0
  have hW' := hW
  obtain ⟨p, q, hA0, hV, rfl, hfz, hnd⟩ := hW
  have hA : DataW.TrodAll enc Try.prog W 0 (fun _ => true) true Try.f14.params.toList args.toList ds p := hA0
  rw [Try.params14] at hA hval
  obtain ⟨v0, vs0, d0, ds0, p0, q0, hargs, rfl, rfl, h0, r0⟩ := trodAll_cons hA
  obtain ⟨v1, vs1, d1, ds1, p1, q1, rfl, rfl, rfl, h1, r1⟩ := trodAll_cons r0
  obtain ⟨v2, vs2, d2, ds2, p2, q2, rfl, rfl, rfl, h2, r2⟩ := trodAll_cons r1
  obtain ⟨rfl, rfl, rfl⟩ := trodAll_nil r2
  obtain rfl : args = #[v0, v1, v2] := by cases args; simp_all
  obtain ⟨rfl, rfl⟩ := trodVars_none hV
  obtain ⟨l0, b0, e0, c0⟩ := open_slice it_opens Try.underlying22 (by kernel_rfl : _ = 4) (by decide) Hp.ItS.cells_len (hval 0 22 v0 rfl rfl) h0 (sz_of hsz 0 22 _ (by rw [Try.params14]; rfl) rfl)
  obtain ⟨s1, rfl, b1⟩ := open_struct it_opens Try.underlying33 (hval 1 33 v1 rfl rfl) h1 (sz_of hsz 1 33 _ (by rw [Try.params14]; rfl) rfl)
  obtain ⟨s2, rfl, b2⟩ := open_struct it_opens Try.underlying33 (hval 2 33 v2 rfl rfl) h2 (sz_of hsz 2 33 _ (by rw [Try.params14]; rfl) rfl)
  have hcall : Calls Try.prog 14 #[v0, (Hp.iv4 s1), (Hp.iv4 s2)] W fun e w' => e = .returned (.bool true) ∧ Below W.heap.size W w' := StI.hsorts_walk v0 l0 s1 s2 W b0 (by have hc := c0; rw [show Try.prog.bytesOf 33 = 32 from by kernel_rfl, show reachBytes = 140737488351232 from by decide] at hc; omega)
  refine hcall.mono fun e W' ⟨he, hb⟩ => ?_
  subst he
  exact ⟨_, rfl, law_post laid0 (by kernel_rfl) rfl (by kernel_rfl) Try.underlying4 hW' rfl rfl rfl hb⟩

theorem over : Rows.heapSortsRow.holds Try.pinned (OpenSpec.ofChange Rows.heapSortsSpec) :=
  OpenClaim.holds_of_wide 14 Try.f14 rfl rfl rfl rfl rfl rfl rfl ⟨rfl, rfl, rfl, rfl, rfl⟩ rfl rfl rfl rfl rfl (by kernel_rfl) Try.func14 (by kernel_rfl)
    (of_decide_eq_true (by kernel_rfl)) (by unfold Func.isWrapper; first | (rw [if_pos (by decide +kernel)]; kernel_rfl) | (rw [if_neg (by decide +kernel)]; exact ⟨rfl, rfl⟩))
    (fun os started H enc _ => lifted os started H enc)

end Go.Proofs.Ytkjapmafipnmpaa.heapSorts
namespace Go.Proofs.Ytkjapmafipnmpaa
theorem heapSorts_proved : Rows.HeapSortsSaid := heapSorts.over
#print axioms heapSorts_proved
end Go.Proofs.Ytkjapmafipnmpaa
