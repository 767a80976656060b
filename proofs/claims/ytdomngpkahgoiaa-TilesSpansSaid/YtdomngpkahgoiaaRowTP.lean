/- For every list of cells and place: 'TilesSpans' returns true. No condition. -/
import Derived.Test.YtdomngpkahgoiaaOpen
import Derived.Test.YtdomngpkahgoiaaTi17
import Derived.Test.YtdomngpkahgoiaaOCe
namespace Go.Proofs.Ytdomngpkahgoiaa.tilesSpans
open Go.ChangeShapes Go.WideShapes Go.ChangeAt Go.RowKit 
set_option linter.unusedVariables false

set_option maxRecDepth 100000 in
theorem lifted (os : Os) (started : os.Started) (H : Type) (enc : TypeId × Value → H) :
    ReturnsInHanded {} Try.checked os 5 .any (Rows.tilesSpansSpec.pre6 enc Try.prog Try.f5 Rows.tilesSpansRow.domain false) (Rows.tilesSpansSpec.post enc Try.prog Try.f5 false true false false) := by
  refine returnsInHanded_of_change_sized (C := Try.checked) own0 started (by kernel_rfl) Try.func5
    (ChangeSpec.witness6 (enc := enc) (C := Try.checked) false ⟨#[], #[.slice none 0 0, .int .u32 0, .int .u32 0], []⟩ 8 (by kernel_rfl) (by kernel_rfl) (by kernel_rfl) (by kernel_rfl)) ?_
  intro W base args ds gs before hval0 hW hcnd hsz _
  have hval : ∀ (j : Nat) t v, Try.f5.params[j]? = some t → args[j]? = some v → Value.okWide Try.prog W .any base t v := hval0
  have hW' := hW
  obtain ⟨p, q, hA0, hV, rfl, hfz, hnd⟩ := hW
  have hA : DataW.TrodAll enc Try.prog W 0 (fun _ => true) true Try.f5.params.toList args.toList ds p := hA0
  rw [Try.params5] at hA hval
  obtain ⟨v0, vs0, d0, ds0, p0, q0, hargs, rfl, rfl, h0, r0⟩ := trodAll_cons hA
  obtain ⟨v1, vs1, d1, ds1, p1, q1, rfl, rfl, rfl, h1, r1⟩ := trodAll_cons r0
  obtain ⟨v2, vs2, d2, ds2, p2, q2, rfl, rfl, rfl, h2, r2⟩ := trodAll_cons r1
  obtain ⟨rfl, rfl, rfl⟩ := trodAll_nil r2
  obtain rfl : args = #[v0, v1, v2] := by cases args; simp_all
  obtain ⟨rfl, rfl⟩ := trodVars_none hV
  obtain ⟨l0, b0, e0, c0⟩ := open_slice ce_opens Try.underlying27 (by kernel_rfl : _ = 3) (by decide) Ti.CeS.cells_len (hval 0 27 v0 rfl rfl) h0 (sz_of hsz 0 27 _ (by rw [Try.params5]; rfl) rfl)
  obtain ⟨a1, rfl, rfl, rfl, w1⟩ := open_int Try.underlying22 (hval 1 22 v1 rfl rfl) h1
  have b1 : 0 ≤ a1 ∧ a1 ≤ 4294967295 := by simpa [Lit.wf, IntKind.min, IntKind.max, IntKind.signed, IntKind.bits] using w1
  obtain ⟨n1, rfl⟩ := Int.eq_ofNat_of_zero_le b1.1
  have c1 : n1 < 4294967296 := by omega
  obtain ⟨a2, rfl, rfl, rfl, w2⟩ := open_int Try.underlying22 (hval 2 22 v2 rfl rfl) h2
  have b2 : 0 ≤ a2 ∧ a2 ≤ 4294967295 := by simpa [Lit.wf, IntKind.min, IntKind.max, IntKind.signed, IntKind.bits] using w2
  obtain ⟨n2, rfl⟩ := Int.eq_ofNat_of_zero_le b2.1
  have c2 : n2 < 4294967296 := by omega
  have hcall : Calls Try.prog 5 #[v0, .int .u32 (n1 : Int), .int .u32 (n2 : Int)] W fun e w' => e = .returned (.bool true) ∧ Below W.heap.size W w' := Ti.spans_walk v0 l0 n1 n2 W b0 e0 (by have hc := c0; rw [show Try.prog.bytesOf 32 = 16 from by kernel_rfl, show reachBytes = 140737488351232 from by decide] at hc; omega) c1 c2
  refine hcall.mono fun e W' ⟨he, hb⟩ => ?_
  subst he
  exact ⟨_, rfl, law_post laid0 (by kernel_rfl) rfl (by kernel_rfl) Try.underlying4 hW' rfl rfl rfl hb⟩

theorem over : Rows.tilesSpansRow.holds Try.pinned (OpenSpec.ofChange Rows.tilesSpansSpec) :=
  OpenClaim.holds_of_wide 5 Try.f5 rfl rfl rfl rfl rfl rfl rfl ⟨rfl, rfl, rfl, rfl, rfl⟩ rfl rfl rfl rfl rfl (by kernel_rfl) Try.func5 (by kernel_rfl)
    (of_decide_eq_true (by kernel_rfl)) (by unfold Func.isWrapper; first | (rw [if_pos (by decide +kernel)]; kernel_rfl) | (rw [if_neg (by decide +kernel)]; exact ⟨rfl, rfl⟩))
    (fun os started H enc _ => lifted os started H enc)

end Go.Proofs.Ytdomngpkahgoiaa.tilesSpans
namespace Go.Proofs.Ytdomngpkahgoiaa
theorem tilesSpans_proved : Rows.TilesSpansSaid := tilesSpans.over
#print axioms tilesSpans_proved
end Go.Proofs.Ytdomngpkahgoiaa
