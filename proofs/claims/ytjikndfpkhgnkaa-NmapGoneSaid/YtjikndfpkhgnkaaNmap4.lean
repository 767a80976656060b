/- The walks over the laws of package nmap: alive, NmapTells. -/
import Derived.Test.YtjikndfpkhgnkaaNmap3
import Derived.Deep.DeepCutAuto
import Derived.Maps.RangeWalk
namespace Go.Proofs.Ytjikndfpkhgnkaa.Nm
open Go.RowKit
set_option linter.unusedVariables false
set_option linter.unusedSimpArgs false

theorem infl (f : Nat → Int) : (Try.prog.info? 22).map (·.size) = some (lsI 256 f).length := by have := inf f; simpa using this
theorem alv : idl (upd (fun _ => 0) 3 9) 256 = [3] := by decide +kernel
set_option maxHeartbeats 4000000 in
set_option maxRecDepth 100000 in
theorem alive_ok (w : World) : Calls Try.prog 14 #[] w fun e w' => e = .returned (.bool true) ∧ Below w.heap.size w w' := by
  have hz := zeroW w
  have hset := set_ok (fun _ => 0) 3 9
  have hids := ids_ok (upd (fun _ => 0) 3 9)
  have hap := apart_ok (upd (fun _ => 0) 3 9)
  have hg3 : (lsI 256 (upd (fun _ => 0) 3 9))[3]? = some (.int .i64 9) := lsI_get _ (by decide)
  have hi0 := inf (fun _ => 0)
  have hi9 := inf (upd (fun _ => 0) 3 9)
  have hs0 := lsI_size 256 (fun _ => 0)
  have hs9 := lsI_size 256 (upd (fun _ => 0) 3 9)
  have ha9 := lsI_all 256 (upd (fun _ => 0) 3 9)
  rw [alv] at hids hap
  have hbnd : ∀ i, i < 256 → -9223372036854775808 ≤ upd (fun _ => 0) 3 9 i ∧ upd (fun _ => 0) 3 9 i ≤ 9223372036854775807 := fun i _ => by unfold upd; split <;> simp
  have hnd : decide (secs (upd (fun _ => 0) 3 9) [3]).Nodup = true := by decide
  generalize (lsI 256 fun _ => 0) = L0 at *
  generalize (lsI 256 (upd (fun _ => 0) 3 9)) = L9 at *
  have HX := Lib.hid (And.intro hset (And.intro hids (And.intro (fun w => hap w hbnd) (And.intro hi0 (And.intro hi9 (And.intro hs0 (And.intro hs9 ha9))))))); clear hset hids hap hi0 hi9 hs0 hs9 ha9 hbnd
  rw [hnd] at HX
  clear hnd
  go_enter Try.func14, Try.ntmps14
  go_wp2_with (first
    | (with_reducible refine wpList_load_row rfl 22 _ rfl w.heap.size rfl 22 L0.toArray (0, 0) _ (alloc_at _ rfl) Try.underlying22 rfl HX.out.2.2.2.1 ?_)
    | (with_reducible refine wpList_load_row rfl 22 _ rfl w.heap.size rfl 22 L9.toArray (0, 0) _ (by assumption) Try.underlying22 rfl HX.out.2.2.2.2.1 ?_)
    | (refine wpList_load_rowG 22 _ rfl rfl w.heap.size rfl 22 L9.toArray (0, 0) _ (by assumption) Try.underlying22 rfl HX.out.2.2.2.2.1 ?_)
    | (with_reducible refine wpList_store_rowF rfl 22 _ _ rfl w.heap.size L9.toArray rfl rfl 22 L0.toArray H1.out.2 HX.out.2.2.2.2.1 (by rw [HX.out.2.2.2.2.2.1, HX.out.2.2.2.2.2.2.1]) HX.out.2.2.2.2.2.2.2 ?_
       intro W hW hF
       have hc3 : W.cell? ⟨w.heap.size, 3, none⟩ = some (.int .i64 9) := by rw [cell_block hW]; simpa using hg3
       have H2 := Lib.hid ((show Below w.heap.size w W from H1.out.1.trans (hF.toBelow (fun k hk => by omega) H1.out.1.size)))
       clear hF hg3)
    | (go_at_call 15; refine (HX.out.1 _ (by decide) (by decide)).mono ?_; rintro e w1 ⟨rfl, hb⟩
       have H1 := Lib.hid (And.intro (below_up (below_alloc1 w _) hb) (block_up (alloc_at (w := w) _ rfl) hb)); clear hb hz)
    | (go_at_call 17; refine (HX.out.2.1 _).mono ?_; rintro e w1 ⟨v, rfl, hb, hown⟩
       obtain ⟨A0, c0, rfl, _, _, _⟩ := own_rd hown
       have hW := block_up (by assumption) hb
       have H3 := Lib.hid (below_up H2.out hb); clear hb hown)
    | (go_at_call 18; refine (HX.out.2.2.1 _).mono ?_; rintro e w1 ⟨rfl, hb⟩
       have H4 := Lib.hid (below_up H3.out hb); clear hb))
  go_ret
  exact ⟨rfl, H4.out⟩
end Go.Proofs.Ytjikndfpkhgnkaa.Nm
