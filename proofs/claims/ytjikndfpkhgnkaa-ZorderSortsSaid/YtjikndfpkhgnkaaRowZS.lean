/- For every two lists of points: 'ZorderSorts' returns true. No condition. -/
import Derived.Test.YtjikndfpkhgnkaaOpen
import Derived.Test.YtjikndfpkhgnkaaZs3
import Derived.Test.YtjikndfpkhgnkaaOPt
namespace Go.Proofs.Ytjikndfpkhgnkaa.zorderSorts
open Go.ChangeShapes Go.WideShapes Go.ChangeAt Go.RowKit 
set_option linter.unusedVariables false

set_option maxRecDepth 100000 in
theorem lifted (os : Os) (started : os.Started) (H : Type) (enc : TypeId × Value → H) :
    ReturnsInHanded {} Try.checked os 13 .any (Rows.zorderSortsSpec.pre6 enc Try.prog Try.f13 Rows.zorderSortsRow.domain false) (Rows.zorderSortsSpec.post enc Try.prog Try.f13 false true false false) := by
  refine returnsInHanded_of_change_sized (C := Try.checked) own0 started (by kernel_rfl) Try.func13
    (ChangeSpec.witness6 (enc := enc) (C := Try.checked) false ⟨#[], #[.slice none 0 0, .slice none 0 0], []⟩ 8 (by kernel_rfl) (by kernel_rfl) (by kernel_rfl) (by kernel_rfl)) ?_
  intro W base args ds gs before hval0 hW hcnd hsz _
  have hval : ∀ (j : Nat) t v, Try.f13.params[j]? = some t → args[j]? = some v → Value.okWide Try.prog W .any base t v := hval0
  have hW' := hW
  obtain ⟨p, q, hA0, hV, rfl, hfz, hnd⟩ := hW
  have hA : DataW.TrodAll enc Try.prog W 0 (fun _ => true) true Try.f13.params.toList args.toList ds p := hA0
  rw [Try.params13] at hA hval
  obtain ⟨v0, vs0, d0, ds0, p0, q0, hargs, rfl, rfl, h0, r0⟩ := trodAll_cons hA
  obtain ⟨v1, vs1, d1, ds1, p1, q1, rfl, rfl, rfl, h1, r1⟩ := trodAll_cons r0
  obtain ⟨rfl, rfl, rfl⟩ := trodAll_nil r1
  obtain rfl : args = #[v0, v1] := by cases args; simp_all
  obtain ⟨rfl, rfl⟩ := trodVars_none hV
  obtain ⟨l0, b0, e0, c0⟩ := open_slice pt_opens Try.underlying90 (by kernel_rfl : _ = 4) (by decide) Pt.PtS.cells_len (hval 0 90 v0 rfl rfl) h0 (sz_of hsz 0 90 _ (by rw [Try.params13]; rfl) rfl)
  obtain ⟨l1, b1, e1, c1⟩ := open_slice pt_opens Try.underlying90 (by kernel_rfl : _ = 4) (by decide) Pt.PtS.cells_len (hval 1 90 v1 rfl rfl) h1 (sz_of hsz 1 90 _ (by rw [Try.params13]; rfl) rfl)
  have hcall : Calls Try.prog 13 #[v0, v1] W fun e w' => e = .returned (.bool true) ∧ Below W.heap.size W w' := St.zsorts_walk v0 v1 l0 l1 W b0 b1 (by have hc := c0; rw [show Try.prog.bytesOf 93 = 32 from by kernel_rfl, show reachBytes = 140737488351232 from by decide] at hc; omega) (by have hc := c1; rw [show Try.prog.bytesOf 93 = 32 from by kernel_rfl, show reachBytes = 140737488351232 from by decide] at hc; omega) (fun x hx => ⟨(e0 x hx).2.1, (e0 x hx).2.2.1⟩) (fun x hx => ⟨(e1 x hx).2.1, (e1 x hx).2.2.1⟩)
  refine hcall.mono fun e W' ⟨he, hb⟩ => ?_
  subst he
  exact ⟨_, rfl, law_post laid0 (by kernel_rfl) rfl (by kernel_rfl) Try.underlying4 hW' rfl rfl rfl hb⟩

theorem over : Rows.zorderSortsRow.holds Try.pinned (OpenSpec.ofChange Rows.zorderSortsSpec) :=
  OpenClaim.holds_of_wide 13 Try.f13 rfl rfl rfl rfl rfl rfl rfl ⟨rfl, rfl, rfl, rfl, rfl⟩ rfl rfl rfl rfl rfl (by kernel_rfl) Try.func13 (by kernel_rfl)
    (of_decide_eq_true (by kernel_rfl)) (by unfold Func.isWrapper; first | (rw [if_pos (by decide +kernel)]; kernel_rfl) | (rw [if_neg (by decide +kernel)]; exact ⟨rfl, rfl⟩))
    (fun os started H enc _ => lifted os started H enc)

end Go.Proofs.Ytjikndfpkhgnkaa.zorderSorts
namespace Go.Proofs.Ytjikndfpkhgnkaa
theorem zorderSorts_proved : Rows.ZorderSortsSaid := zorderSorts.over
#print axioms zorderSorts_proved
end Go.Proofs.Ytjikndfpkhgnkaa
