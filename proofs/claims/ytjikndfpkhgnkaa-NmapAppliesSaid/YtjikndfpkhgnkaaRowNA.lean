/- For every map, entries and numbers: 'NmapApplies' returns true. No condition. -/
import Derived.Test.YtjikndfpkhgnkaaOpen
import Derived.Test.YtjikndfpkhgnkaaNmap8
import Derived.Test.YtjikndfpkhgnkaaOpen2
import Derived.Test.YtjikndfpkhgnkaaOEntE
namespace Go.Proofs.Ytjikndfpkhgnkaa.nmapApplies
open Go.ChangeShapes Go.WideShapes Go.ChangeAt Go.RowKit 
set_option linter.unusedVariables false

set_option maxRecDepth 100000 in
theorem lifted (os : Os) (started : os.Started) (H : Type) (enc : TypeId × Value → H) :
    ReturnsInHanded {} Try.checked os 9 .any (Rows.nmapAppliesSpec.pre6 enc Try.prog Try.f9 Rows.nmapAppliesRow.domain false) (Rows.nmapAppliesSpec.post enc Try.prog Try.f9 false true false false) := by
  refine returnsInHanded_of_change_sized (C := Try.checked) own0 started (by kernel_rfl) Try.func9
    (ChangeSpec.witness6 (enc := enc) (C := Try.checked) false ⟨#[], #[(.agg (Array.replicate 256 (.int .i64 0))), .slice none 0 0, .slice none 0 0], []⟩ 8 (by kernel_rfl) (by kernel_rfl) (by kernel_rfl) (by kernel_rfl)) ?_
  intro W base args ds gs before hval0 hW hcnd hsz _
  have hval : ∀ (j : Nat) t v, Try.f9.params[j]? = some t → args[j]? = some v → Value.okWide Try.prog W .any base t v := hval0
  have hW' := hW
  obtain ⟨p, q, hA0, hV, rfl, hfz, hnd⟩ := hW
  have hA : DataW.TrodAll enc Try.prog W 0 (fun _ => true) true Try.f9.params.toList args.toList ds p := hA0
  rw [Try.params9] at hA hval
  obtain ⟨v0, vs0, d0, ds0, p0, q0, hargs, rfl, rfl, h0, r0⟩ := trodAll_cons hA
  obtain ⟨v1, vs1, d1, ds1, p1, q1, rfl, rfl, rfl, h1, r1⟩ := trodAll_cons r0
  obtain ⟨v2, vs2, d2, ds2, p2, q2, rfl, rfl, rfl, h2, r2⟩ := trodAll_cons r1
  obtain ⟨rfl, rfl, rfl⟩ := trodAll_nil r2
  obtain rfl : args = #[v0, v1, v2] := by cases args; simp_all
  obtain ⟨rfl, rfl⟩ := trodVars_none hV
  obtain ⟨f0, rfl, b0⟩ := open_arrI Try.underlying22 Try.underlying3 (by kernel_rfl) (by kernel_rfl) (hval 0 22 v0 rfl rfl) h0
  obtain ⟨l1, b1, e1, c1⟩ := open_slice ent_opens Try.underlying69 (by kernel_rfl : _ = 2) (by decide) EntS.cells_len (hval 1 69 v1 rfl rfl) h1 (sz_of hsz 1 69 _ (by rw [Try.params9]; rfl) rfl)
  obtain ⟨l2, b2, c2, e2⟩ := open_ints' Try.underlying24 Try.underlying3 (by kernel_rfl) (by kernel_rfl) (hval 2 24 v2 rfl rfl) h2 (sz_of hsz 2 24 _ (by rw [Try.params9]; rfl) rfl)
  have hcall : Calls Try.prog 9 #[(.agg (lsI 256 f0).toArray), v1, v2] W fun e w' => e = .returned (.bool true) ∧ Below W.heap.size W w' := Nm.applies_walk f0 v1 v2 l1 l2 W b1 b2 (len1 c1) (len8 c2) e1
  refine hcall.mono fun e W' ⟨he, hb⟩ => ?_
  subst he
  exact ⟨_, rfl, law_post laid0 (by kernel_rfl) rfl (by kernel_rfl) Try.underlying4 hW' rfl rfl rfl hb⟩

theorem over : Rows.nmapAppliesRow.holds Try.pinned (OpenSpec.ofChange Rows.nmapAppliesSpec) :=
  OpenClaim.holds_of_wide 9 Try.f9 rfl rfl rfl rfl rfl rfl rfl ⟨rfl, rfl, rfl, rfl, rfl⟩ rfl rfl rfl rfl rfl (by kernel_rfl) Try.func9 (by kernel_rfl)
    (of_decide_eq_true (by kernel_rfl)) (by unfold Func.isWrapper; first | (rw [if_pos (by decide +kernel)]; kernel_rfl) | (rw [if_neg (by decide +kernel)]; exact ⟨rfl, rfl⟩))
    (fun os started H enc _ => lifted os started H enc)

end Go.Proofs.Ytjikndfpkhgnkaa.nmapApplies
namespace Go.Proofs.Ytjikndfpkhgnkaa
theorem nmapApplies_proved : Rows.NmapAppliesSaid := nmapApplies.over
#print axioms nmapApplies_proved
end Go.Proofs.Ytjikndfpkhgnkaa
