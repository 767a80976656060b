/- The walk over PlanRoom. -/
import Derived.Test.YthpnlgdcijmocaaPl10
import Derived.Test.YthpnlgdcijmocaaPl12
namespace Go.Proofs.Ythpnlgdcijmocaa.Pl
open Go.RowKit Rg
set_option linter.unusedVariables false
set_option linter.unusedSimpArgs false
def entI (i : Nat) : EntS := ⟨1, 1 + ((i % 255 : Nat) : Int)⟩
theorem roomL_bnd {g : GeS} {p : PlcS} {f : List Int} (h : oddB g p f = false) (hf : f.length ≤ 6) : 0 ≤ roomL g p f ∧ roomL g p f ≤ 217 := by
  obtain ⟨hck, o1, o2, _⟩ := oddB_f h
  obtain ⟨_, _, o4, o3⟩ := GeS.chk_zero hck
  unfold roomL
  rw [h, if_neg (by decide)]
  have b1 : (0 : Int) ≤ f.length * (g.siz - 1) := Int.mul_nonneg (by omega) (by omega)
  have b2 : (f.length : Int) * (g.siz - 1) ≤ f.length * 31 := Int.mul_le_mul_of_nonneg_left (by omega) (by omega)
  omega
set_option maxHeartbeats 8000000 in
set_option maxRecDepth 100000 in
theorem proom_walk (g : GeS) (p : PlcS) (vf : Value) (free : List Int) (more : Nat) (w : World) (hi : IRd w vf free) (hfl : free.length ≤ 17592186044416) (hm : more < 256) :
    Calls Try.prog 5 #[gv g, plv p, vf, .int .u8 (more : Nat)] w fun e w' => e = .returned (.bool true) ∧ Below w.heap.size w w' := by
  obtain ⟨wA, hwA⟩ : ∃ W, ((w.alloc (.cells #[.int .i64 g.seg, .int .i64 g.siz] 25)).alloc (.cells #[.int .i64 p.seg, .int .i64 p.off, .int .i64 p.next] 28)) = W := ⟨_, rfl⟩
  have s1 : (w.alloc (.cells #[.int .i64 g.seg, .int .i64 g.siz] 25)).heap.size = w.heap.size + 1 := by unfold World.alloc; simp
  have HG : Hid (wA.heap[w.heap.size]? = some (.cells #[.int .i64 g.seg, .int .i64 g.siz] 25 (0, 0))) := Lib.hid (by rw [← hwA]; exact alloc_old (alloc_at (w := w) _ rfl) _)
  have HP : Hid (wA.heap[w.heap.size + 1]? = some (.cells #[.int .i64 p.seg, .int .i64 p.off, .int .i64 p.next] 28 (0, 0))) := Lib.hid (by rw [← hwA]; exact alloc_at _ s1.symm)
  have HA : Hid (Below w.heap.size w wA) := Lib.hid (by rw [← hwA]; exact below_alloc (below_alloc1 w _) _)
  have HI := Lib.hid hi
  clear s1
  have HAl := fun W => alive_ok W
  obtain ⟨Af, cf, rfl, _, _⟩ := hi
  go_enter Try.func5, Try.ntmps5
  go_wp2_with fail
  clear hwA
  (with_reducible refine (HAl _).mono ?_); rintro e w2 ⟨rfl, hb⟩
  have HG2 := Lib.hid (block_up HG.out hb); have HP2 := Lib.hid (block_up HP.out hb); have HA2 := Lib.hid (below_up HA.out hb)
  clear hb HAl
  obtain ⟨g0, g1⟩ := cells2p HG2.out
  obtain ⟨p0, p1, p2⟩ := cells3p HP2.out
  have HOd := Lib.hid (lodd_ok g p (.slice Af free.length cf) free w2 (HI.out.below HA2.out) hfl)
  go_wp2_with fail
  clear g0 g1 p0 p1 p2
  (with_reducible refine HOd.out.mono ?_); rintro e w3 ⟨rfl, hb⟩
  have HG3 := Lib.hid (block_up HG2.out hb); have HP3 := Lib.hid (block_up HP2.out hb); have HA3 := Lib.hid (below_up HA2.out hb)
  clear hb
  by_cases hOB : oddB g p free = true
  · rw [hOB]
    clear hOB
    go_wp2
    go_ret
    exact ⟨rfl, HA3.out⟩
  replace hOB : oddB g p free = false := by cases hh : oddB g p free; rfl; exact absurd hh hOB
  rw [hOB]
  have HOB := Lib.hid hOB
  clear hOB
  by_cases h6 : 6 < free.length
  · have d6 : decide ((free.length : Int) > 6) = true := decide_eq_true (by omega)
    have d6n : decide (6 < free.length) = true := decide_eq_true h6
    go_wp2
    go_ret
    exact ⟨rfl, HA3.out⟩
  have d6 : decide ((free.length : Int) > 6) = false := decide_eq_false (by omega)
  have d6n : decide (6 < free.length) = false := decide_eq_false h6
  obtain ⟨b0, b217⟩ := roomL_bnd HOB.out (by omega)
  have HRm := Lib.hid (room_ok g p (.slice Af free.length cf) free w3 (HI.out.below HA3.out) hfl)
  obtain ⟨N, hN⟩ := Int.eq_ofNat_of_zero_le b0
  rw [hN] at HRm b217
  have HN := Lib.hid hN
  clear hN b0
  obtain ⟨g0, g1⟩ := cells2p HG3.out
  obtain ⟨p0, p1, p2⟩ := cells3p HP3.out
  go_wp2_with fail
  clear g0 g1 p0 p1 p2
  (with_reducible refine HRm.out.mono ?_); rintro e w4 ⟨rfl, hb⟩
  have HG4 := Lib.hid (block_up HG3.out hb); have HP4 := Lib.hid (block_up HP3.out hb); have HA4 := Lib.hid (below_up HA3.out hb)
  clear hb
  have dn : decide ((N : Int) < 0) = false := decide_eq_false (by omega)
  have dn2 : decide ((N : Int) > 16777216) = false := decide_eq_false (by omega)
  have dn3 : decide (16777216 < N) = false := decide_eq_false (by omega)
  obtain ⟨r3, hr3⟩ : ∃ r : Nat, Int.tmod (more : Int) 3 = (r : Int) ∧ r < 3 := ⟨more % 3, by rw [Int.tmod_eq_emod_of_nonneg (by omega)]; omega, by omega⟩
  obtain ⟨M, hM⟩ : ∃ M, N + r3 = M := ⟨_, rfl⟩
  have hMi : (N : Int) + (r3 : Int) = (M : Int) := by omega
  have hrm := hr3.1
  have hkw : IntKind.i64.wrap (more : Int) = (more : Int) := by rw [IntKind.wrap_i64]; omega
  have hkM : IntKind.i64.wrap (M : Int) = (M : Int) := by rw [IntKind.wrap_i64]; omega
  have hmk := make_e M (by omega) w4
  have HRow := Lib.hid (alloc_at (w := w4) (.cells (madeCells #[.int .i64 0, .int .i64 0] (M * 2)) 39) rfl)
  have hbm := below_alloc1 w4 (.cells (madeCells #[.int .i64 0, .int .i64 0] (M * 2)) 39)
  have HG5 := Lib.hid (block_up HG4.out hbm); have HP5 := Lib.hid (block_up HP4.out hbm); have HA5 := Lib.hid (below_up HA4.out hbm)
  clear hbm
  go_upto_region 10 with (fail)
  clear hmk
  have HLt : Hid (w.heap.size + 1 < w4.heap.size) := Lib.hid (Array.getElem?_eq_some_iff.1 HP4.out).1
  generalize w4.heap.size = gr at *
  generalize World.alloc w4 _ = w5 at *
  have HRow0 : Hid (∃ cs, w5.heap[gr]? = some (.cells cs 39 (0, 0)) ∧ cs.toList = ((List.range 0).map entI ++ List.replicate (M - 0) (⟨0, 0⟩ : EntS)).flatMap EntS.cells) := Lib.hid ⟨_, HRow.out, by rw [made_e]; simp⟩
  clear HRow
  go_wp2_with fail
  go_loopw [12] (fun vi W' => ∃ i : Nat, vi = .int .i64 i ∧ i ≤ M ∧ (∃ cs, W'.heap[gr]? = some (.cells cs 39 (0, 0)) ∧ cs.toList = ((List.range i).map entI ++ List.replicate (M - i) (⟨0, 0⟩ : EntS)).flatMap EntS.cells) ∧ Fr (fun k => k = gr) w5 W') (fun vi _ => M - (intOf vi).toNat)
  case atStart => exact ⟨0, rfl, Nat.zero_le _, HRow0.out, Fr.refl _ _⟩
  case round =>
  obtain ⟨i, rfl, hiM, ⟨cs, hcs, hcl⟩, hF⟩ := hrel
  have HF := Lib.hid hF
  have HCs := Lib.hid (And.intro hcs hcl)
  have hsz : cs.size = M * 2 := by
    have := congrArg List.length hcl
    rw [flat_len EntS.cells_len] at this
    simp only [Array.length_toList, List.length_append, List.length_map, List.length_range, List.length_replicate] at this
    omega
  have HSz := Lib.hid hsz
  clear hF hcl
  by_cases hlt : i < M
  · have d1 : decide (i < M) = true := decide_eq_true hlt
    have d2 : decide ((i : Int) < M) = true := decide_eq_true (by omega)
    have bk : (i : Int) < M := by omega
    obtain ⟨v0, c0⟩ : ∃ v, wr.cell? ⟨gr, i * 2, none⟩ = some v := ⟨cs[i * 2]'(by omega), by rw [cell_block hcs]; simp⟩
    obtain ⟨v1, c1⟩ : ∃ v, wr.cell? ⟨gr, i * 2 + 1, none⟩ = some v := ⟨cs[i * 2 + 1]'(by omega), by rw [cell_block hcs]; simp⟩
    have f0 := free_block hcs (i * 2)
    have f1 := free_block hcs (i * 2 + 1)
    have km : Int.tmod (i : Int) 255 = ((i % 255 : Nat) : Int) := by rw [Int.tmod_eq_emod_of_nonneg (by omega)]; omega
    have ka : IntKind.i64.wrap (1 + ((i % 255 : Nat) : Int)) = 1 + ((i % 255 : Nat) : Int) := by rw [IntWalk.i64_in _ (by omega)]
    clear hcs hsz
    go_wp2_with fail
    have hsz' := HSz.out
    have hb1 := blk_set (blk_set HCs.out.1 (i * 2) (.int .i64 1)) (i * 2 + 1) (.int .i64 (1 + ((i % 255 : Nat) : Int)))
    refine ⟨⟨i + 1, by go_num, by omega, ⟨_, hb1, ?_⟩, ((HF.out.set (p := ⟨gr, i * 2, none⟩) (fun _ => rfl) _).set (p := ⟨gr, i * 2 + 1, none⟩) (fun _ => rfl) _)⟩, by simp [intOf]; omega⟩
    rw [Array.toList_setIfInBounds, Array.toList_setIfInBounds, HCs.out.2]
    have hll : ((List.range i).map entI ++ List.replicate (M - i) (⟨0, 0⟩ : EntS)).length = M := by simp; omega
    rw [show (Value.int .i64 1) = .int .i64 (entI i).kind from rfl, show (Value.int .i64 (1 + ((i % 255 : Nat) : Int))) = .int .i64 (entI i).id from rfl, set_e _ i (entI i) (by omega)]
    congr 1
    rw [show M - i = (M - (i + 1)) + 1 by omega, List.replicate_succ, List.range_succ, List.map_append, List.set_append_right _ _ (by simp)]
    simp
  · obtain rfl : i = M := by omega
    have d1 : decide (i < i) = false := decide_eq_false (by omega)
    have d2 : decide ((i : Int) < i) = false := decide_eq_false (by omega)
    have hl : cs.toList = ((List.range i).map entI).flatMap EntS.cells := by rw [HCs.out.2]; simp
    have HRd : Hid (ERd wr (.slice (some ⟨gr, 0, none⟩) i i) ((List.range i).map entI)) := Lib.hid (by
      refine ⟨some ⟨gr, 0, none⟩, i, by simp, by simp, ?_⟩
      rw [← hl]
      have := rd_block HCs.out.1 0 cs.size (by omega)
      simp only [List.drop_zero] at this
      rwa [show cs.toList.take cs.size = cs.toList from List.take_of_length_le (by simp)] at this)
    have hlt := HLt.out
    have HA6 : Hid (Below w.heap.size w wr) := Lib.hid (((Fr.of_below (S := fun k => w.heap.size ≤ k) HA5.out).trans HF.out (fun k _ h => by show w.heap.size ≤ k; omega)).toBelow (fun _ h => h) (Nat.le_refl _))
    have HG6 := Lib.hid (blk_fr HG5.out HF.out (by omega))
    have HP6 := Lib.hid (blk_fr HP5.out HF.out (by omega))
    obtain ⟨g0, g1⟩ := cells2p HG6.out
    obtain ⟨p0, p1, p2⟩ := cells3p HP6.out
    clear hcs hl hlt hsz
    have HPt := Lib.hid (parts_ok g p (.slice Af free.length cf) free (.slice (some ⟨gr, 0, none⟩) i i) ((List.range i).map entI) wr (HI.out.below HA6.out) hfl HRd.out (by simp; omega))
    have HNo : Hid (((List.range i).map entI).any EntS.odd = false) := Lib.hid (by
      rw [List.any_eq_false]
      intro x hx
      obtain ⟨j, _, rfl⟩ := List.mem_map.1 hx
      have k1 : ¬ (1 + ((j % 255 : Nat) : Int) < 1) := by omega
      have k2 : ¬ (256 ≤ 1 + ((j % 255 : Nat) : Int)) := by omega
      show ¬ (EntS.odd ⟨1, 1 + ((j % 255 : Nat) : Int)⟩ = true)
      simp only [EntS.odd, decide_eq_false k1, decide_eq_false k2]
      decide)
    have HRm2 : Hid ((allL g ((List.range i).map entI).length p free ((List.range i).map entI)).isSome = decide (i ≤ N)) := Lib.hid (by
      obtain ⟨hck, o1, o2, _⟩ := oddB_f HOB.out
      obtain ⟨_, _, o4, o3⟩ := GeS.chk_zero hck
      have h := allL_room g o4 o3 ((List.range i).map entI).length p free ((List.range i).map entI) (Nat.le_refl _) (fun e he => by
        obtain ⟨j, _, rfl⟩ := List.mem_map.1 he
        rfl) o1 o2
      have hN := HN.out
      unfold roomL at hN
      rw [HOB.out, if_neg (by decide)] at hN
      rw [hN] at h
      rw [Bool.eq_iff_iff, h, decide_eq_true_iff]
      simp)
    go_wp2_with fail
    (with_reducible refine HPt.out.mono ?_); rintro e w7 ⟨hE, hb⟩
    have HA7 := Lib.hid (below_up HA6.out hb)
    clear hb
    rcases hE with ⟨E, rfl, ⟨h1, _⟩ | ⟨_, h1, _⟩ | ⟨_, _, h1, rfl⟩⟩ | ⟨_, _, ds, p', f', vf, vo, ps, hR, rfl, _⟩
    · rw [HOB.out] at h1; cases h1
    · rw [HNo.out] at h1; cases h1
    · have h2 := HRm2.out
      rw [h1] at h2
      have h3 : ¬ i ≤ N := by simpa using h2.symm
      have HBz := Lib.hid (below_up HA7.out (below_alloc1 w7 (.cells #[.int .i64 0, .int .i64 0, .int .i64 0] 28)))
      have dN : decide ((i : Int) = N) = false := decide_eq_false (by omega)
      have dN2 : decide (i = N) = false := decide_eq_false (by omega)
      have d0 : decide (i = 0) = false := decide_eq_false (by omega)
      have d0' : decide ((i : Int) = 0) = false := decide_eq_false (by omega)
      go_wp2_with fail
      go_ret
      exact ⟨ret_bool (by simp; omega), HBz.out⟩
    · have h2 := HRm2.out
      rw [hR] at h2
      have h3 : i = N := by have : i ≤ N := by simpa using h2.symm
                            omega
      have HBz := Lib.hid (below_up HA7.out (below_alloc1 w7 (.cells #[.int .i64 p'.seg, .int .i64 p'.off, .int .i64 p'.next] 28)))
      have dN : decide ((i : Int) = N) = true := decide_eq_true (by omega)
      have dN2 : decide (i = N) = true := decide_eq_true (by omega)
      go_wp2_with fail
      go_ret
      exact ⟨rfl, HBz.out⟩
end Go.Proofs.Ythpnlgdcijmocaa.Pl
