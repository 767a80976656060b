/- The walk over croftlaw18.alive. -/
import Derived.Test.YthpnlgdcijmocaaPl7
namespace Go.Proofs.Ythpnlgdcijmocaa.Pl
open Go.RowKit Rg
set_option linter.unusedVariables false
set_option linter.unusedSimpArgs false
theorem alive_plain : oddB ⟨6, 4⟩ ⟨0, 0, 1⟩ [2] = false ∧ [(⟨1, 5⟩ : EntS)].any EntS.odd = false ∧ allL ⟨6, 4⟩ 1 ⟨0, 0, 1⟩ [2] [⟨1, 5⟩] = some ([⟨⟨0, 0, 1⟩, true, [⟨1, 5⟩]⟩], ⟨0, 2, 1⟩, [2]) := by
  refine ⟨by decide, by decide, by decide⟩
set_option maxHeartbeats 8000000 in
set_option maxRecDepth 100000 in
theorem alive_ok (w : World) : Calls Try.prog 15 #[] w fun e w' => e = .returned (.bool true) ∧ Below w.heap.size w w' := by
  obtain ⟨wg, hwg⟩ : ∃ W, w.alloc (.cells #[.int .i64 6, .int .i64 4] 25) = W := ⟨_, rfl⟩
  obtain ⟨wi, hwi⟩ : ∃ W, wg.alloc (.cells #[.int .i64 2] 3) = W := ⟨_, rfl⟩
  have hi : IRd wi (.slice (some ⟨wg.heap.size, 0, none⟩) 1 1) [2] := by rw [← hwi]; exact ird_own (e := 3) (own_new wg wg.heap.size 3 1 1 #[.int .i64 2] (Nat.le_refl _) (by decide) rfl)
  have he : ERd (wi.alloc (.cells #[.int .i64 1, .int .i64 5] 39)) (.slice (some ⟨wi.heap.size, 0, none⟩) 1 1) [⟨1, 5⟩] := srd_own EntS.cells_len (by decide) (own_new wi wi.heap.size 39 2 1 #[.int .i64 1, .int .i64 5] (Nat.le_refl _) (by decide) rfl)
  have hbi := below_alloc1 wi (.cells #[.int .i64 1, .int .i64 5] 39)
  have HB : Hid (Below w.heap.size w (wi.alloc (.cells #[.int .i64 1, .int .i64 5] 39))) := Lib.hid (by rw [← hwi, ← hwg]; exact below_alloc (below_alloc (below_alloc1 w _) _) _)
  have hpt := parts_ok ⟨6, 4⟩ ⟨0, 0, 1⟩ _ [2] _ [⟨1, 5⟩] _ (hi.below hbi) (by simp) he (by simp)
  have HPt := Lib.hid hpt
  have gc : wg.cell? ⟨w.heap.size, 0, none⟩ = some (.int .i64 6) ∧ wg.cell? ⟨w.heap.size, 1, none⟩ = some (.int .i64 4) := by rw [← hwg]; exact cells2p (alloc_at (w := w) _ rfl)
  obtain ⟨gc0, gc1⟩ := gc
  clear hi he hbi hpt
  go_enter Try.func15, Try.ntmps15
  go_upto_region 2 with (fail)
  clear hwg
  go_wp2_with fail
  refine HPt.out.mono ?_; rintro e w7 ⟨hE, hb⟩
  obtain ⟨a1, a2, a3⟩ := alive_plain
  have HB7 := Lib.hid (below_up HB.out hb)
  clear hb
  rcases hE with ⟨E, _, ⟨h1, _⟩ | ⟨_, h1, _⟩ | ⟨_, _, h1, _⟩⟩ | ⟨_, _, ds, p', f', vf, vo, ps, hR, rfl, hi, hO, hds, _⟩
  · rw [a1] at h1; cases h1
  · rw [a2] at h1; cases h1
  · rw [show [(⟨1, 5⟩ : EntS)].length = 1 from rfl, a3] at h1; cases h1
  · rw [show [(⟨1, 5⟩ : EntS)].length = 1 from rfl, a3] at hR
    simp only [Option.some.injEq, Prod.mk.injEq] at hR
    obtain ⟨rfl, rfl, rfl⟩ := hR
    obtain ⟨x, rfl⟩ : ∃ x, ps = [x] := by
      have hl := congrArg List.length hds
      rw [List.length_map] at hl
      match ps, hl with
      | [x], _ => exact ⟨x, rfl⟩
    simp only [List.map_cons, List.map_nil, List.cons.injEq, and_true] at hds
    have hla : x.last = true := congrArg PartD.last hds
    obtain ⟨Ao, co, rfl, _, _, hr, hA⟩ := own_rd hO
    obtain ⟨ad, rfl, h4⟩ := hr.at_ (i := 4) (by simp [PartS.cells])
    obtain ⟨h0, hs, _⟩ := hA ad rfl
    obtain ⟨go, oo, so⟩ := ad
    simp only at h0 hs
    subst h0 hs
    have c4 : w7.cell? ⟨go, 4, none⟩ = some (.bool true) := by
      rw [add_plain, Nat.zero_add] at h4
      rw [h4]
      show some (Value.bool x.last) = _
      rw [hla]
    obtain ⟨Af, cf, rfl, _, _⟩ := id hi
    have hbx := below_alloc1 w7 (.cells #[.int .i64 0, .int .i64 2, .int .i64 1] 28)
    have c4' := cell_up c4 hbx
    have HB8 := Lib.hid (below_up HB7.out hbx)
    simp only [List.length_cons, List.length_nil, Nat.zero_add]
    clear hr hA h4 hO hi hbx hds c4
    go_wp2
    go_ret
    exact ⟨rfl, HB8.out⟩
end Go.Proofs.Ythpnlgdcijmocaa.Pl
