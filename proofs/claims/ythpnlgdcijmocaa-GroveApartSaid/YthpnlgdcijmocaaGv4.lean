/- The walks over (*Grove).Drop, and over what nobody made. -/
import Derived.Test.YthpnlgdcijmocaaGv3
namespace Go.Proofs.Ythpnlgdcijmocaa.Gv
open Go.RowKit Lt Pt Rg Nd Mp
set_option linter.unusedVariables false
set_option linter.unusedSimpArgs false
set_option maxHeartbeats 4000000 in
set_option maxRecDepth 100000 in
theorem drop_ok {W : World} {p b n : Nat} {m : Int → Option NdS} (h : GvAt W p b n m) (id : Int) (hi : i64 id) :
    Calls Try.prog 24 #[.pointer (some ⟨p, 0, none⟩), .int .i64 id] W fun e w' => e = .returned (.bool (m id).isSome) ∧ GvAt w' p b n (updN m id none) ∧ Fr (fun k => k = b) W w' := by
  have hprd := h.prd id
  obtain ⟨x, hx⟩ : ∃ x, (m id).getD NdS.zero = x := ⟨_, rfl⟩
  obtain ⟨B, hB⟩ : ∃ y, (m id).isSome = y := ⟨_, rfl⟩
  have hlk := h.look hi
  have hp0 : W.cell? ⟨p, 0, none⟩ = some (.map (some b)) := by rw [cell_block h.1]; rfl
  have HIs := Lib.hid (is_ok h.1)
  rw [hx, hB] at hlk
  rw [hB]
  rw [hx] at hprd
  have HG := Lib.hid h
  have HP := hprd.1
  clear h hx hB hprd
  obtain ⟨lf, v, pts, next, ks, cs⟩ := x
  simp only at HP hlk
  obtain ⟨A, c, rfl, _, _⟩ := HP
  have qb := below_alloc1 W (.cells (ncells ⟨lf, .slice A pts.length c, pts, next, ks, cs⟩) 49)
  have HM := Lib.hid (HG.out.up qb)
  have HB := Lib.hid qb
  have hp1 : (W.alloc (.cells (ncells ⟨lf, .slice A pts.length c, pts, next, ks, cs⟩) 49)).cell? ⟨p, 0, none⟩ = some (.map (some b)) := by rw [cell_block HM.out.1]; rfl
  clear qb
  go_enter Try.func24, Try.ntmps24
  go_wp2_with fail
  (with_reducible refine HIs.out.mono ?_); rintro e w1 ⟨rfl, rfl⟩
  go_upto_region 4 with (fail)
  clear hlk hp0
  generalize World.alloc W _ = w1 at *
  obtain ⟨W2, hrun, hM2, hF2⟩ := HM.out.2.1.del keyI mapN hi 0
  have HM2 := Lib.hid hM2
  have HF2 := Lib.hid hF2
  clear hM2 hF2
  go_wp2
  go_ret
  obtain ⟨es, cl, hbm⟩ := HM.out.2.1.blk
  refine ⟨rfl, ⟨?_, ?_, ?_⟩, (Fr.of_below HB.out).trans HF2.out (fun _ _ h => h)⟩
  · exact blk_fr HM.out.1 HF2.out (fun e => by have h1 := HM.out.1; rw [e] at h1; have := h1.symm.trans hbm; simp at this)
  · rw [updN_map]; exact HM2.out
  · intro a y hy
    unfold updN at hy
    split at hy
    · cases hy
    · have := HM.out.2.2 a y hy
      exact ⟨prd_frm this.1 hbm HF2.out, this.2⟩
/-- What nobody made. -/
def Nob (W : World) (v : Value) : Prop := v = .pointer none ∨ ∃ p, v = .pointer (some ⟨p, 0, none⟩) ∧ W.heap[p]? = some (.cells #[.map none] 75 (0, 0))
theorem Nob.up {W W' : World} {v : Value} (h : Nob W v) (hb : Below W.heap.size W W') : Nob W' v := h.imp id (fun ⟨p, e, hp⟩ => ⟨p, e, block_up hp hb⟩)
theorem is_no {W : World} {v : Value} (h : Nob W v) : Calls Try.prog 59 #[v] W fun e w' => e = .returned (.bool false) ∧ W = w' := by
  rcases h with rfl | ⟨p, rfl, hp⟩
  · exact is_none W
  · exact is_ok (m := none) hp
set_option maxHeartbeats 4000000 in
set_option maxRecDepth 100000 in
theorem get_no {W : World} {v : Value} (h : Nob W v) (id : Int) : Calls Try.prog 25 #[v, .int .i64 id] W fun e w' => e = .returned (.tuple #[.agg zc, .bool false]) ∧ Below W.heap.size W w' := by
  have qz := alloc_at (w := W) (.cells zc 49) rfl
  have qb := below_alloc1 W (.cells zc 49)
  have HIs := Lib.hid (is_no (h.up qb))
  have HZ := Lib.hid qz
  have HB := Lib.hid qb
  have HI := Lib.hid (And.intro (info_ndn NdS.zero) (And.intro (hold_zc NdS.zero) (nd_one NdS.zero rfl)))
  clear qz qb h
  go_enter Try.func25, Try.ntmps25
  go_wp2_with fail
  generalize World.alloc W _ = w1 at *
  (with_reducible refine HIs.out.mono ?_); rintro e w2 ⟨rfl, rfl⟩
  go_wp2_with (with_reducible refine wpList_store_rowF rfl 49 _ _ rfl W.heap.size (ncells NdS.zero) rfl rfl 49 _ HZ.out HI.out.1 HI.out.2.1 HI.out.2.2 ?_; intro w4 hg4 hf4)
  refine bodyPost_ret (v := .tuple #[.agg zc, .bool false]) (results_cell_tmp (p := 4) (t := 5) rfl _ _ W.heap.size _ _ (0, 0) _ rfl hg4 Try.underlying49 rfl HI.out.1 _ rfl) rfl ⟨rfl, ?_⟩
  exact ((Fr.of_below (S := fun k => W.heap.size ≤ k) HB.out).trans hf4 (fun k hk e => by subst e; exact Nat.le_refl _)).toBelow (fun _ h => h) (Nat.le_refl _)
set_option maxHeartbeats 4000000 in
set_option maxRecDepth 100000 in
theorem put_no {W : World} {v : Value} (h : Nob W v) (id : Int) (x : NdS) : Calls Try.prog 22 #[v, .int .i64 id, nv x] W fun e w' => e = .returned (.int .i64 9) ∧ Below W.heap.size W w' := by
  have qb := below_alloc1 W (.cells (ncells x) 49)
  have HIs := Lib.hid (is_no (h.up qb))
  have HB := Lib.hid qb
  clear qb h
  obtain ⟨lf, v, pts, next, ks, cs⟩ := x
  go_enter Try.func22, Try.ntmps22
  go_wp2_with fail
  (with_reducible refine HIs.out.mono ?_); rintro e w2 ⟨rfl, rfl⟩
  go_wp2
  go_ret
  exact ⟨rfl, HB.out⟩
set_option maxHeartbeats 4000000 in
set_option maxRecDepth 100000 in
theorem drop_no {W : World} {v : Value} (h : Nob W v) (id : Int) : Calls Try.prog 24 #[v, .int .i64 id] W fun e w' => e = .returned (.bool false) ∧ W = w' := by
  have HIs := Lib.hid (is_no h)
  clear h
  go_enter Try.func24, Try.ntmps24
  go_wp2_with fail
  (with_reducible refine HIs.out.mono ?_); rintro e w2 ⟨rfl, rfl⟩
  go_wp2
  go_ret
  exact ⟨rfl, rfl⟩
set_option maxHeartbeats 4000000 in
set_option maxRecDepth 100000 in
theorem fresh_no {W : World} {v : Value} (h : Nob W v) : Calls Try.prog 30 #[v] W fun e w' => e = .returned (.tuple #[.int .i64 0, .int .i64 9]) ∧ W = w' := by
  have HIs := Lib.hid (is_no h)
  clear h
  go_enter Try.func30, Try.ntmps30
  go_wp2_with fail
  (with_reducible refine HIs.out.mono ?_); rintro e w2 ⟨rfl, rfl⟩
  go_wp2
  go_ret2
  exact ⟨rfl, rfl⟩
set_option maxHeartbeats 4000000 in
set_option maxRecDepth 100000 in
theorem ids_no {W : World} {v : Value} (h : Nob W v) : Calls Try.prog 27 #[v] W fun e w' => e = .returned (.slice none 0 0) ∧ W = w' := by
  have HIs := Lib.hid (is_no h)
  clear h
  go_enter Try.func27, Try.ntmps27
  go_wp2_with fail
  (with_reducible refine HIs.out.mono ?_); rintro e w2 ⟨rfl, rfl⟩
  go_wp2
  go_ret
  exact ⟨rfl, rfl⟩
set_option maxHeartbeats 4000000 in
set_option maxRecDepth 100000 in
theorem clone_no {W : World} {v : Value} (h : Nob W v) : Calls Try.prog 23 #[v] W fun e w' => e = .returned (.pointer none) ∧ W = w' := by
  have HIs := Lib.hid (is_no h)
  clear h
  go_enter Try.func23, Try.ntmps23
  go_wp2_with fail
  (with_reducible refine HIs.out.mono ?_); rintro e w2 ⟨rfl, rfl⟩
  go_wp2
  go_ret
  exact ⟨rfl, rfl⟩
set_option maxHeartbeats 4000000 in
set_option maxRecDepth 100000 in
theorem changed_no {W : World} {v u : Value} (h : Nob W v) (hu : Nob W u) : Calls Try.prog 29 #[v, u] W fun e w' => e = .returned (.slice none 0 0) ∧ Below W.heap.size W w' := by
  have HN := Lib.hid (And.intro h hu)
  clear h hu
  go_enter Try.func29, Try.ntmps29
  go_wp2_with fail
  go_loopw [5, 6] (fun vo vi W' => vo = .slice none 0 0 ∧ ∃ i : Nat, vi = .int .i64 i ∧ 1 ≤ i ∧ i ≤ 256 ∧ Below W.heap.size W W') (fun _ vi _ => 256 - (intOf vi).toNat)
  case atStart => exact ⟨rfl, 1, rfl, by omega, by omega, Below.refl _ _⟩
  case round =>
  obtain ⟨rfl, i, rfl, hi1, hi2, hb⟩ := hrel
  have HB := Lib.hid hb
  clear hb
  by_cases hi : i < 256
  · have d1 : decide ((i : Int) < 256) = true := decide_eq_true (by omega)
    go_wp2_with fail
    (with_reducible refine (get_no (HN.out.1.up HB.out) _).mono ?_); rintro e w1 ⟨rfl, hb⟩
    have HB1 := Lib.hid (below_up HB.out hb); clear hb
    have HB2 := Lib.hid (below_alloc HB1.out (.cells zc 49))
    go_wp2_with fail
    generalize World.alloc w1 _ = w2 at *
    (with_reducible refine (get_no (HN.out.2.up HB2.out) _).mono ?_); rintro e w3 ⟨rfl, hb⟩
    have HB3 := Lib.hid (below_up HB2.out hb); clear hb
    have HB4 := Lib.hid (below_alloc HB3.out (.cells zc 49))
    go_wp2
    exact ⟨⟨rfl, i + 1, by go_num, by omega, by omega, HB4.out⟩, by simp [intOf]; omega⟩
  · obtain rfl : i = 256 := by omega
    go_wp2
    go_ret
    exact ⟨rfl, HB.out⟩
end Go.Proofs.Ythpnlgdcijmocaa.Gv
