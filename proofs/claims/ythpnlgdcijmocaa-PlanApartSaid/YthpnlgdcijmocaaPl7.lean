/- The walk over plan.Room. -/
import Derived.Test.YthpnlgdcijmocaaPl6
namespace Go.Proofs.Ythpnlgdcijmocaa.Pl
open Go.RowKit Rg
set_option linter.unusedVariables false
set_option linter.unusedSimpArgs false
def roomL (g : GeS) (p : PlcS) (free : List Int) : Int := if oddB g p free = true then 0 else max (g.siz - p.off - 1) 0 + free.length * (g.siz - 1)
set_option maxHeartbeats 8000000 in
set_option maxRecDepth 100000 in
theorem room_ok (g : GeS) (p : PlcS) (vf : Value) (free : List Int) (w : World) (hi : IRd w vf free) (hfl : free.length ≤ 17592186044416) :
    Calls Try.prog 18 #[gv g, plv p, vf] w fun e w' => e = .returned (.int .i64 (roomL g p free)) ∧ Below w.heap.size w w' := by
  obtain ⟨wA, hwA⟩ : ∃ W, ((w.alloc (.cells #[.int .i64 g.seg, .int .i64 g.siz] 25)).alloc (.cells #[.int .i64 p.seg, .int .i64 p.off, .int .i64 p.next] 28)) = W := ⟨_, rfl⟩
  have s1 : (w.alloc (.cells #[.int .i64 g.seg, .int .i64 g.siz] 25)).heap.size = w.heap.size + 1 := by unfold World.alloc; simp
  have HG : Hid (wA.heap[w.heap.size]? = some (.cells #[.int .i64 g.seg, .int .i64 g.siz] 25 (0, 0))) := Lib.hid (by rw [← hwA]; exact alloc_old (alloc_at (w := w) _ rfl) _)
  have HP : Hid (wA.heap[w.heap.size + 1]? = some (.cells #[.int .i64 p.seg, .int .i64 p.off, .int .i64 p.next] 28 (0, 0))) := Lib.hid (by rw [← hwA]; exact alloc_at _ s1.symm)
  have HA : Hid (Below w.heap.size w wA) := Lib.hid (by rw [← hwA]; exact below_alloc (below_alloc1 w _) _)
  have HI := Lib.hid hi
  obtain ⟨Af, cf, rfl, _, _⟩ := hi
  clear s1
  obtain ⟨R, hR⟩ : ∃ r, roomL g p free = r := ⟨_, rfl⟩
  rw [hR]
  unfold roomL at hR
  have HRr := Lib.hid hR
  clear hR
  obtain ⟨g0, g1⟩ := cells2p HG.out
  obtain ⟨p0, p1, p2⟩ := cells3p HP.out
  go_enter Try.func18, Try.ntmps18
  go_upto_region 1 with (fail)
  clear hwA
  have hbx := below_alloc1 wA (.cells (pcs g p (.slice Af free.length cf)) 122)
  have HX := Lib.hid (alloc_at (w := wA) (.cells (pcs g p (.slice Af free.length cf)) 122) rfl)
  have HG2 := Lib.hid (block_up HG.out hbx)
  have HP2 := Lib.hid (block_up HP.out hbx)
  have HA2 := Lib.hid (below_up HA.out hbx)
  clear hbx
  go_upto_region 2 with (fail)
  generalize wA.heap.size = q at *
  generalize World.alloc wA _ = W2 at *
  have HOd := Lib.hid (podd_ok HX.out (HI.out.below HA2.out) (by omega))
  clear g0 g1 p0 p1 p2
  go_wp2_with fail
  (with_reducible refine HOd.out.mono ?_); rintro e W3 ⟨rfl, hb3⟩
  have HG3 := Lib.hid (block_up HG2.out hb3)
  have HP3 := Lib.hid (block_up HP2.out hb3)
  have HA3 := Lib.hid (below_up HA2.out hb3)
  clear hb3
  by_cases hOB : oddB g p free = true
  · rw [hOB]
    have hR := HRr.out
    rw [if_pos hOB] at hR
    subst hR
    clear hOB
    go_wp2
    go_ret
    exact ⟨rfl, HA3.out⟩
  replace hOB : oddB g p free = false := by cases hh : oddB g p free; rfl; exact absurd hh hOB
  rw [hOB]
  have hR := HRr.out
  rw [hOB, if_neg (by decide)] at hR
  obtain ⟨hck, o1, o2, _⟩ := oddB_f hOB
  obtain ⟨_, _, o4, o3⟩ := GeS.chk_zero hck
  have HR2 := Lib.hid hR
  clear hR hck hOB
  obtain ⟨g0, g1⟩ := cells2p HG3.out
  obtain ⟨p0, p1, p2⟩ := cells3p HP3.out
  have k1 : IntKind.i64.wrap (g.siz - p.off) = g.siz - p.off := by rw [IntWalk.i64_in _ (by omega)]
  have k2 : IntKind.i64.wrap (g.siz - p.off - 1) = g.siz - p.off - 1 := by rw [IntWalk.i64_in _ (by omega)]
  have k3 : IntKind.i64.wrap (g.siz - 1) = g.siz - 1 := by rw [IntWalk.i64_in _ (by omega)]
  have b1 : (0 : Int) ≤ free.length * (g.siz - 1) := Int.mul_nonneg (by omega) (by omega)
  have b2 : (free.length : Int) * (g.siz - 1) ≤ free.length * 31 := Int.mul_le_mul_of_nonneg_left (by omega) (by omega)
  have k4 : IntKind.i64.wrap (free.length * (g.siz - 1)) = free.length * (g.siz - 1) := by rw [IntWalk.i64_in _ (by omega)]
  have k5 : IntKind.i64.wrap (max (g.siz - p.off - 1) 0 + free.length * (g.siz - 1)) = max (g.siz - p.off - 1) 0 + free.length * (g.siz - 1) := by rw [IntWalk.i64_in _ (by omega)]
  go_wp2
  all_goals
    go_ret
    refine ⟨ret_int ?_, HA3.out⟩
    rw [← HR2.out]
    omega
end Go.Proofs.Ythpnlgdcijmocaa.Pl
