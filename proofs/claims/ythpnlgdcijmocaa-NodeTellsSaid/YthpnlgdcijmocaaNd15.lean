/- The walk over NodeTells; printed by gen/nd15.py. -/
import Derived.Test.YthpnlgdcijmocaaNd14
import Derived.Test.YthpnlgdcijmocaaNd12
import Derived.Deep.DeepCutAuto
namespace Go.Proofs.Ythpnlgdcijmocaa.Nd
open Go.RowKit Lt Pt Rg
set_option linter.unusedVariables false
set_option linter.unusedSimpArgs false
/-- node.Put, whether the node may be or not. -/
theorem nput_any (n : NdS) (w : World) (h : PRd w n.v n.pts) (hf : ∀ p ∈ n.pts, p.fine) (hl : n.pts.length ≤ 140737488355328) :
    Calls Try.prog 33 #[nv n] w fun e w' => ∃ A c L, e = .returned (.tuple #[.slice A L c, .int .i64 (if mayB n then 0 else 9)]) ∧ (mayB n = true → BRd w' (.slice A L c) (nodeB n)) ∧ (mayB n = false → L = 0) ∧ Below w.heap.size w w' := by
  cases hm : mayB n
  · refine (nput_bad n w h hl hm).mono ?_
    rintro e w' ⟨rfl, hb⟩
    exact ⟨none, 0, 0, rfl, (fun h => by cases h), fun _ => rfl, hb⟩
  · refine (nput_ok n w h hf hl hm).mono ?_
    rintro e w' ⟨v, rfl, hv, hb⟩
    obtain ⟨A, c, rfl, _⟩ := id hv
    exact ⟨A, c, _, rfl, fun _ => hv, (fun h => by cases h), hb⟩
set_option maxHeartbeats 8000000 in
set_option maxRecDepth 100000 in
theorem ntells_walk (n m : NdS) (v : Value) (b : List UInt8) (w : World) (hp : PRd w n.v n.pts) (hf : ∀ p ∈ n.pts, p.fine) (hl : n.pts.length ≤ 140737488355328) (hpm : PRd w m.v m.pts) (hlm : m.pts.length ≤ 140737488355328) (hv : BRd w v b) (hlb : b.length ≤ 140737488351232) :
    Calls Try.prog 12 #[nv n, nv m, v] w fun e w' => e = .returned (.bool true) ∧ Below w.heap.size w w' := by
  have hlb2 : b.length ≤ 140737488355328 := by omega
  have h2 := two_nodes n m w
  have HB1 := Lib.hid h2.1
  have HX1 := Lib.hid h2.2.1
  have HM1 := Lib.hid h2.2.2
  have HV := Lib.hid hv
  have HP0 := Lib.hid hp
  have HF0 := Lib.hid hf
  have HPm := Lib.hid hpm
  obtain ⟨A0, c0, hv0, hc0, _⟩ := id hp
  obtain ⟨A1, c1, hv1, _, _⟩ := id hpm
  clear h2 hp hf hpm hv
  obtain ⟨lf, v0, pts0, next, ks, cs⟩ := n
  obtain ⟨lf1, v1, pts1, next1, ks1, cs1⟩ := m
  simp only at HX1 HM1 HB1 HP0 HF0 HPm hl hlm hv0 hv1 hc0
  subst hv0
  subst hv1
  go_enter Try.func12, Try.ntmps12
  go_wp2_with fail
  generalize ((w.alloc _).alloc _) = w1 at *
  (with_reducible refine (alive_ok _).mono ?_); rintro e w2 ⟨rfl, hb⟩
  have HX2 := Lib.hid (block_up HX1.out hb)
  have HM2 := Lib.hid (block_up HM1.out hb)
  have HB2 := Lib.hid (below_up HB1.out hb)
  clear hb
  have n2 := nd_all HX2.out
  simp only at n2
  go_upto_if 20 with (fail)
  go_cut [] (fun wx => ∃ c', wx.heap[w.heap.size]? = some (.cells (ncells ⟨lf, .slice A0 (pts0.take 20).length c', pts0.take 20, next, ks, cs⟩) 49 (0, 0)) ∧ PRd w (.slice A0 (pts0.take 20).length c') (pts0.take 20) ∧ wx.heap[w.heap.size + 1]? = some (.cells (ncells ⟨lf1, .slice A1 pts1.length c1, pts1, next1, ks1, cs1⟩) 49 (0, 0)) ∧ Below w.heap.size w wx)
  case first =>
    by_cases h20 : 20 < pts0.length
    · have d1 : decide ((20 : Int) < pts0.length) = true := decide_eq_true (by omega)
      have d2 : decide (20 < pts0.length) = true := decide_eq_true h20
      have e1 : (pts0.take 20).length = 20 := by rw [List.length_take]; omega
      have b1 : (20 : Int) ≤ c0 := by omega
      have b2 : 20 ≤ c0 := by omega
      have HT := Lib.hid (SRd.take HP0.out PtS.cells_len (k := 20) (by omega) c0 (by omega))
      have HE := Lib.hid e1
      have f1 := free_block HX2.out 1
      clear e1
      go_wp2
      go_meet
      case rel =>
        refine ⟨c0, ?_, by rw [HE.out]; exact HT.out, blk_far HM2.out (p := ⟨w.heap.size, 1, none⟩) (by show w.heap.size + 1 ≠ w.heap.size; omega) _, ((Fr.of_below (S := fun x => x = w.heap.size) HB2.out).set (p := ⟨w.heap.size, 1, none⟩) (fun _ => rfl) _).toBelow (fun x h => by subst h; exact Nat.le_refl _) (Nat.le_refl _)⟩
        rw [HE.out]
        exact blk_set HX2.out 1 _
    · have d1 : decide ((20 : Int) < pts0.length) = false := decide_eq_false (by omega)
      have d2 : decide (20 < pts0.length) = false := decide_eq_false h20
      have e1 : pts0.take 20 = pts0 := List.take_of_length_le (by omega)
      have HE := Lib.hid e1
      clear e1
      go_wp2
      go_meet
      case rel => exact ⟨c0, by rw [HE.out]; exact HX2.out, by rw [HE.out]; exact HP0.out, HM2.out, HB2.out⟩
  case rest =>
  obtain ⟨c', hX, hP, hM, hB⟩ := hcut
  have hl20 : (pts0.take 20).length ≤ 20 := List.length_take_le _ _
  have hf20 : ∀ p ∈ pts0.take 20, p.fine := fun p hp => HF0.out p (List.mem_of_mem_take hp)
  clear n2 HX2 HM2 HB2 HX1 HM1 HB1 HP0 HF0
  generalize pts0.take 20 = l at *
  have HX3 := Lib.hid hX; have HP := Lib.hid hP; have HM3 := Lib.hid hM; have HB3 := Lib.hid hB
  clear hX hP hM hB
  have hll : l.length ≤ 140737488355328 := by omega
  have HNode := Lib.hid (fun W (h : PRd W (.slice A0 l.length c') l) => rnode_ok ⟨lf, .slice A0 l.length c', l, next, ks, cs⟩ W h hll)
  have HCk := Lib.hid (fun W (h : PRd W (.slice A0 l.length c') l) => check_ok ⟨lf, .slice A0 l.length c', l, next, ks, cs⟩ W h hll)
  have HPut := Lib.hid (fun W (h : PRd W (.slice A0 l.length c') l) => nput_any ⟨lf, .slice A0 l.length c', l, next, ks, cs⟩ W h hf20 hll)
  have HRPut := Lib.hid (fun W (h : PRd W (.slice A0 l.length c') l) (hm : mayB ⟨lf, .slice A0 l.length c', l, next, ks, cs⟩ = true) => rput_ok ⟨lf, .slice A0 l.length c', l, next, ks, cs⟩ W h hf20 ((mayB_iff _).1 hm))
  have HTot := Lib.hid (fun W (h : PRd W (.slice A0 l.length c') l) => total_ok ⟨lf, .slice A0 l.length c', l, next, ks, cs⟩ W h)
  have HSame := Lib.hid (fun W (h : PRd W (.slice A0 l.length c') l) (h1 : PRd W (.slice A1 pts1.length c1) pts1) => same_ok ⟨lf, .slice A0 l.length c', l, next, ks, cs⟩ ⟨lf1, .slice A1 pts1.length c1, pts1, next1, ks1, cs1⟩ W h h1 hll hlm)
  have HRSame := Lib.hid (fun W (h : PRd W (.slice A0 l.length c') l) (h1 : PRd W (.slice A1 pts1.length c1) pts1) => rsame_ok ⟨lf, .slice A0 l.length c', l, next, ks, cs⟩ ⟨lf1, .slice A1 pts1.length c1, pts1, next1, ks1, cs1⟩ W h h1 hll hlm)
  obtain ⟨M, hM⟩ : ∃ M, mayB ⟨lf, .slice A0 l.length c', l, next, ks, cs⟩ = M := ⟨_, rfl⟩
  obtain ⟨R, hR⟩ : ∃ R, sameB ⟨lf, .slice A0 l.length c', l, next, ks, cs⟩ ⟨lf1, .slice A1 pts1.length c1, pts1, next1, ks1, cs1⟩ = R := ⟨_, rfl⟩
  obtain ⟨T, hT⟩ : ∃ T, (if lf = true then (l.length : Int) else wrap64 (wrap64 (wrap64 (cs 0 + cs 1) + cs 2) + cs 3)) = T := ⟨_, rfl⟩
  obtain ⟨NB, hNB⟩ : ∃ NB, nodeB ⟨lf, .slice A0 l.length c', l, next, ks, cs⟩ = NB := ⟨_, rfl⟩
  simp only [hM] at HNode HCk HPut HRPut
  simp only [hR] at HSame HRSame
  simp only [hT] at HTot
  simp only [hNB] at HPut HRPut
  have HTe := Lib.hid hT
  clear hM hR hT hNB hf20
  have n3 := nd_all HX3.out
  simp only at n3
  go_wp2_with fail
  clear n3
  refine (HNode.out _ (HP.out.below HB3.out)).mono ?_; rintro e w4 ⟨rfl, hb⟩
  have HX4 := Lib.hid (block_up HX3.out hb); have HM4 := Lib.hid (block_up HM3.out hb); have HB4 := Lib.hid (below_up HB3.out hb)
  clear hb
  have n4 := nd_all HX4.out
  simp only at n4
  go_wp2_with fail
  clear n4
  refine (HPut.out _ (HP.out.below HB4.out)).mono ?_; rintro e w5 ⟨Ax, cx, Lx, rfl, hx1, hx0, hb⟩
  have HX5 := Lib.hid (block_up HX4.out hb); have HM5 := Lib.hid (block_up HM4.out hb); have HB5 := Lib.hid (below_up HB4.out hb)
  have Hx1 := Lib.hid hx1; have Hx0 := Lib.hid hx0
  clear hb hx1 hx0
  go_upto_region 7 with (fail)
  go_cut [66] (fun v66 wx => v66 = .bool false ∧ Below w5.heap.size w5 wx)
  case first =>
    cases M
    · have hL := Hx0.out rfl
      subst hL
      simp only [Bool.false_eq_true, if_false] at HCk ⊢
      have HQ : Hid (∀ W', Below w5.heap.size w5 W' → (W'.cell? ⟨w.heap.size, 0, none⟩ = some (.bool lf) ∧ W'.cell? ⟨w.heap.size, 1, none⟩ = some (.slice A0 l.length c') ∧ W'.cell? ⟨w.heap.size, 2, none⟩ = some (.int .i64 next) ∧ W'.cell? ⟨w.heap.size, 3, none⟩ = some (.int .i64 (ks 0)) ∧ W'.cell? ⟨w.heap.size, 4, none⟩ = some (.int .i64 (ks 1)) ∧ W'.cell? ⟨w.heap.size, 5, none⟩ = some (.int .i64 (ks 2)) ∧ W'.cell? ⟨w.heap.size, 6, none⟩ = some (.int .i64 (ks 3)) ∧ W'.cell? ⟨w.heap.size, 7, none⟩ = some (.int .i64 (cs 0)) ∧ W'.cell? ⟨w.heap.size, 8, none⟩ = some (.int .i64 (cs 1)) ∧ W'.cell? ⟨w.heap.size, 9, none⟩ = some (.int .i64 (cs 2)) ∧ W'.cell? ⟨w.heap.size, 10, none⟩ = some (.int .i64 (cs 3)))) := Lib.hid (fun W' hb => nd_all (n := ⟨lf, .slice A0 l.length c', l, next, ks, cs⟩) (block_up HX5.out hb))
      refine beginS (S := fun W' => (W'.cell? ⟨w.heap.size, 0, none⟩ = some (.bool lf) ∧ W'.cell? ⟨w.heap.size, 1, none⟩ = some (.slice A0 l.length c') ∧ W'.cell? ⟨w.heap.size, 2, none⟩ = some (.int .i64 next) ∧ W'.cell? ⟨w.heap.size, 3, none⟩ = some (.int .i64 (ks 0)) ∧ W'.cell? ⟨w.heap.size, 4, none⟩ = some (.int .i64 (ks 1)) ∧ W'.cell? ⟨w.heap.size, 5, none⟩ = some (.int .i64 (ks 2)) ∧ W'.cell? ⟨w.heap.size, 6, none⟩ = some (.int .i64 (ks 3)) ∧ W'.cell? ⟨w.heap.size, 7, none⟩ = some (.int .i64 (cs 0)) ∧ W'.cell? ⟨w.heap.size, 8, none⟩ = some (.int .i64 (cs 1)) ∧ W'.cell? ⟨w.heap.size, 9, none⟩ = some (.int .i64 (cs 2)) ∧ W'.cell? ⟨w.heap.size, 10, none⟩ = some (.int .i64 (cs 3)))) [] (by kernel_rfl) (HQ.out _ below_drew1) (fun hHeld0 => ?_)
      have HD := Lib.hid (below_drew1 (w := w5))
      generalize (World.drew w5) = W0 at *
      refine takeH (i := 0) (v := ?_) rfl (by kernel_rfl) (fun _ _ _ h => h) (Or.inl ⟨by kernel_rfl, ?_⟩) (by assumption) ?_; rotate_left; (focus (intro w hSw; (try dsimp only at hSw); go_simp; (try with_reducible rfl); done)); (try simp only [Act.put, List.getElem_toArray, List.getElem_cons_succ, List.getElem_cons_zero, List.setIfInBounds_toArray, List.set_cons_zero, List.set_cons_succ])
      refine takeF (i := 3) (v := ?_) rfl (by kernel_rfl) (fun _ _ _ h => h) (Or.inl ⟨by kernel_rfl, ?_⟩) (by assumption) ?_; rotate_left; (focus (intro w _; go_simp; (try with_reducible rfl); done)); (try simp only [Act.put, List.getElem_toArray, List.getElem_cons_succ, List.getElem_cons_zero, List.setIfInBounds_toArray, List.set_cons_zero, List.set_cons_succ])
      clear hHeld0
      refine readyS (rs := [1]) (by kernel_rfl) (by simp) ?_
      refine ReadyS.consH rfl (fun K hK => ?_) ReadyS.nil
      (try simp only [List.getElem_toArray, List.getElem_cons_succ, List.getElem_cons_zero])
      go_simp
      refine (HCk.out W0 (HP.out.below (below_up HB5.out HD.out))).mono ?_; rintro e Wa ⟨rfl, hb⟩
      have HDa := Lib.hid (below_up HD.out hb)
      clear hb
      refine hK.out _ _ (HQ.out _ HDa.out) (fun hHeld => ?_)
      clear hK K
      (try simp only [Act.put, List.getElem_toArray, List.getElem_cons_succ, List.getElem_cons_zero, List.setIfInBounds_toArray, List.set_cons_zero, List.set_cons_succ])
      refine takeF (i := 2) (v := ?_) rfl (by kernel_rfl) (fun _ _ _ h => h) (Or.inl ⟨by kernel_rfl, ?_⟩) (by assumption) ?_; rotate_left; (focus (intro w _; go_simp; (try with_reducible rfl); done)); (try simp only [Act.put, List.getElem_toArray, List.getElem_cons_succ, List.getElem_cons_zero, List.setIfInBounds_toArray, List.set_cons_zero, List.set_cons_succ])
      refine takeF (i := 4) (v := ?_) rfl (by kernel_rfl) (fun _ _ _ h => h) (Or.inl ⟨by kernel_rfl, ?_⟩) (by assumption) ?_; rotate_left; (focus (intro w _; go_simp; (try with_reducible rfl); done)); (try simp only [Act.put, List.getElem_toArray, List.getElem_cons_succ, List.getElem_cons_zero, List.setIfInBounds_toArray, List.set_cons_zero, List.set_cons_succ])
      refine takeF (i := 5) (v := ?_) rfl (by kernel_rfl) (fun _ _ _ h => h) (Or.inl ⟨by kernel_rfl, ?_⟩) (by assumption) ?_; rotate_left; (focus (intro w _; go_simp; (try with_reducible rfl); done)); (try simp only [Act.put, List.getElem_toArray, List.getElem_cons_succ, List.getElem_cons_zero, List.setIfInBounds_toArray, List.set_cons_zero, List.set_cons_succ])
      refine takeF (i := 6) (v := ?_) rfl (by kernel_rfl) (fun _ _ _ h => h) (Or.inl ⟨by kernel_rfl, ?_⟩) (by assumption) ?_; rotate_left; (focus (intro w _; go_simp; (try with_reducible rfl); done)); (try simp only [Act.put, List.getElem_toArray, List.getElem_cons_succ, List.getElem_cons_zero, List.setIfInBounds_toArray, List.set_cons_zero, List.set_cons_succ])
      refine takeF (i := 7) (v := ?_) rfl (by kernel_rfl) (fun _ _ _ h => h) (Or.inl ⟨by kernel_rfl, ?_⟩) (by assumption) ?_; rotate_left; (focus (intro w _; go_simp; (try with_reducible rfl); done)); (try simp only [Act.put, List.getElem_toArray, List.getElem_cons_succ, List.getElem_cons_zero, List.setIfInBounds_toArray, List.set_cons_zero, List.set_cons_succ])
      refine takeF (i := 8) (v := ?_) rfl (by kernel_rfl) (fun _ _ _ h => h) (Or.inl ⟨by kernel_rfl, ?_⟩) (by assumption) ?_; rotate_left; (focus (intro w _; go_simp; (try with_reducible rfl); done)); (try simp only [Act.put, List.getElem_toArray, List.getElem_cons_succ, List.getElem_cons_zero, List.setIfInBounds_toArray, List.set_cons_zero, List.set_cons_succ])
      refine takeF (i := 9) (v := ?_) rfl (by kernel_rfl) (fun _ _ _ h => h) (Or.inl ⟨by kernel_rfl, ?_⟩) (by assumption) ?_; rotate_left; (focus (intro w _; go_simp; (try with_reducible rfl); done)); (try simp only [Act.put, List.getElem_toArray, List.getElem_cons_succ, List.getElem_cons_zero, List.setIfInBounds_toArray, List.set_cons_zero, List.set_cons_succ])
      refine takeF (i := 10) (v := ?_) rfl (by kernel_rfl) (fun _ _ _ h => h) (Or.inl ⟨by kernel_rfl, ?_⟩) (by assumption) ?_; rotate_left; (focus (intro w _; go_simp; (try with_reducible rfl); done)); (try simp only [Act.put, List.getElem_toArray, List.getElem_cons_succ, List.getElem_cons_zero, List.setIfInBounds_toArray, List.set_cons_zero, List.set_cons_succ])
      refine takeF (i := 11) (v := ?_) rfl (by kernel_rfl) (fun _ _ _ h => h) (Or.inl ⟨by kernel_rfl, ?_⟩) (by assumption) ?_; rotate_left; (focus (intro w _; go_simp; (try with_reducible rfl); done)); (try simp only [Act.put, List.getElem_toArray, List.getElem_cons_succ, List.getElem_cons_zero, List.setIfInBounds_toArray, List.set_cons_zero, List.set_cons_succ])
      refine takeF (i := 12) (v := ?_) rfl (by kernel_rfl) (fun _ _ _ h => h) (Or.inl ⟨by kernel_rfl, ?_⟩) (by assumption) ?_; rotate_left; (focus (intro w _; go_simp; (try with_reducible rfl); done)); (try simp only [Act.put, List.getElem_toArray, List.getElem_cons_succ, List.getElem_cons_zero, List.setIfInBounds_toArray, List.set_cons_zero, List.set_cons_succ])
      refine takeF (i := 13) (v := ?_) rfl (by kernel_rfl) (fun _ _ _ h => h) (Or.inl ⟨by kernel_rfl, ?_⟩) (by assumption) ?_; rotate_left; (focus (intro w _; go_simp; (try with_reducible rfl); done)); (try simp only [Act.put, List.getElem_toArray, List.getElem_cons_succ, List.getElem_cons_zero, List.setIfInBounds_toArray, List.set_cons_zero, List.set_cons_succ])
      refine takeF (i := 14) (v := ?_) rfl (by kernel_rfl) (fun _ _ _ h => h) (Or.inl ⟨by kernel_rfl, ?_⟩) (by assumption) ?_; rotate_left; (focus (intro w _; go_simp; (try with_reducible rfl); done)); (try simp only [Act.put, List.getElem_toArray, List.getElem_cons_succ, List.getElem_cons_zero, List.setIfInBounds_toArray, List.set_cons_zero, List.set_cons_succ])
      refine takeF (i := 15) (v := ?_) rfl (by kernel_rfl) (fun _ _ _ h => h) (Or.inl ⟨by kernel_rfl, ?_⟩) (by assumption) ?_; rotate_left; (focus (intro w _; go_simp; (try with_reducible rfl); done)); (try simp only [Act.put, List.getElem_toArray, List.getElem_cons_succ, List.getElem_cons_zero, List.setIfInBounds_toArray, List.set_cons_zero, List.set_cons_succ])
      refine takeF (i := 16) (v := ?_) rfl (by kernel_rfl) (fun _ _ _ h => h) (Or.inl ⟨by kernel_rfl, ?_⟩) (by assumption) ?_; rotate_left; (focus (intro w _; go_simp; (try with_reducible rfl); done)); (try simp only [Act.put, List.getElem_toArray, List.getElem_cons_succ, List.getElem_cons_zero, List.setIfInBounds_toArray, List.set_cons_zero, List.set_cons_succ])
      refine takeF (i := 17) (v := ?_) rfl (by kernel_rfl) (fun _ _ _ h => h) (Or.inl ⟨by kernel_rfl, ?_⟩) (by assumption) ?_; rotate_left; (focus (intro w _; go_simp; (try with_reducible rfl); done)); (try simp only [Act.put, List.getElem_toArray, List.getElem_cons_succ, List.getElem_cons_zero, List.setIfInBounds_toArray, List.set_cons_zero, List.set_cons_succ])
      refine takeF (i := 18) (v := ?_) rfl (by kernel_rfl) (fun _ _ _ h => h) (Or.inl ⟨by kernel_rfl, ?_⟩) (by assumption) ?_; rotate_left; (focus (intro w _; go_simp; (try with_reducible rfl); done)); (try simp only [Act.put, List.getElem_toArray, List.getElem_cons_succ, List.getElem_cons_zero, List.setIfInBounds_toArray, List.set_cons_zero, List.set_cons_succ])
      refine takeF (i := 19) (v := ?_) rfl (by kernel_rfl) (fun _ _ _ h => h) (Or.inl ⟨by kernel_rfl, ?_⟩) (by assumption) ?_; rotate_left; (focus (intro w _; go_simp; (try with_reducible rfl); done)); (try simp only [Act.put, List.getElem_toArray, List.getElem_cons_succ, List.getElem_cons_zero, List.setIfInBounds_toArray, List.set_cons_zero, List.set_cons_succ])
      refine takeF (i := 20) (v := ?_) rfl (by kernel_rfl) (fun _ _ _ h => h) (Or.inl ⟨by kernel_rfl, ?_⟩) (by assumption) ?_; rotate_left; (focus (intro w _; go_simp; (try with_reducible rfl); done)); (try simp only [Act.put, List.getElem_toArray, List.getElem_cons_succ, List.getElem_cons_zero, List.setIfInBounds_toArray, List.set_cons_zero, List.set_cons_succ])
      refine takeF (i := 21) (v := ?_) rfl (by kernel_rfl) (fun _ _ _ h => h) (Or.inl ⟨by kernel_rfl, ?_⟩) (by assumption) ?_; rotate_left; (focus (intro w _; go_simp; (try with_reducible rfl); done)); (try simp only [Act.put, List.getElem_toArray, List.getElem_cons_succ, List.getElem_cons_zero, List.setIfInBounds_toArray, List.set_cons_zero, List.set_cons_succ])
      refine takeF (i := 22) (v := ?_) rfl (by kernel_rfl) (fun _ _ _ h => h) (Or.inl ⟨by kernel_rfl, ?_⟩) (by assumption) ?_; rotate_left; (focus (intro w _; go_simp; (try with_reducible rfl); done)); (try simp only [Act.put, List.getElem_toArray, List.getElem_cons_succ, List.getElem_cons_zero, List.setIfInBounds_toArray, List.set_cons_zero, List.set_cons_succ])
      refine takeF (i := 23) (v := ?_) rfl (by kernel_rfl) (fun _ _ _ h => h) (Or.inl ⟨by kernel_rfl, ?_⟩) (by assumption) ?_; rotate_left; (focus (intro w _; go_simp; (try with_reducible rfl); done)); (try simp only [Act.put, List.getElem_toArray, List.getElem_cons_succ, List.getElem_cons_zero, List.setIfInBounds_toArray, List.set_cons_zero, List.set_cons_succ])
      refine takeF (i := 24) (v := ?_) rfl (by kernel_rfl) (fun _ _ _ h => h) (Or.inl ⟨by kernel_rfl, ?_⟩) (by assumption) ?_; rotate_left; (focus (intro w _; go_simp; (try with_reducible rfl); done)); (try simp only [Act.put, List.getElem_toArray, List.getElem_cons_succ, List.getElem_cons_zero, List.setIfInBounds_toArray, List.set_cons_zero, List.set_cons_succ])
      refine takeF (i := 25) (v := ?_) rfl (by kernel_rfl) (fun _ _ _ h => h) (Or.inl ⟨by kernel_rfl, ?_⟩) (by assumption) ?_; rotate_left; (focus (intro w _; go_simp; (try with_reducible rfl); done)); (try simp only [Act.put, List.getElem_toArray, List.getElem_cons_succ, List.getElem_cons_zero, List.setIfInBounds_toArray, List.set_cons_zero, List.set_cons_succ])
      refine takeF (i := 26) (v := ?_) rfl (by kernel_rfl) (fun _ _ _ h => h) (Or.inl ⟨by kernel_rfl, ?_⟩) (by assumption) ?_; rotate_left; (focus (intro w _; go_simp; (try with_reducible rfl); done)); (try simp only [Act.put, List.getElem_toArray, List.getElem_cons_succ, List.getElem_cons_zero, List.setIfInBounds_toArray, List.set_cons_zero, List.set_cons_succ])
      refine takeF (i := 27) (v := undef) rfl (by kernel_rfl) (fun _ _ _ h => h) (Or.inr ⟨by kernel_rfl, rfl⟩) (by assumption) ?_; (try simp only [Act.put, List.getElem_toArray, List.getElem_cons_succ, List.getElem_cons_zero, List.setIfInBounds_toArray, List.set_cons_zero, List.set_cons_succ])
      refine takeF (i := 28) (v := undef) rfl (by kernel_rfl) (fun _ _ _ h => h) (Or.inr ⟨by kernel_rfl, rfl⟩) (by assumption) ?_; (try simp only [Act.put, List.getElem_toArray, List.getElem_cons_succ, List.getElem_cons_zero, List.setIfInBounds_toArray, List.set_cons_zero, List.set_cons_succ])
      refine takeF (i := 29) (v := undef) rfl (by kernel_rfl) (fun _ _ _ h => h) (Or.inr ⟨by kernel_rfl, rfl⟩) (by assumption) ?_; (try simp only [Act.put, List.getElem_toArray, List.getElem_cons_succ, List.getElem_cons_zero, List.setIfInBounds_toArray, List.set_cons_zero, List.set_cons_succ])
      refine takeF (i := 30) (v := undef) rfl (by kernel_rfl) (fun _ _ _ h => h) (Or.inr ⟨by kernel_rfl, rfl⟩) (by assumption) ?_; (try simp only [Act.put, List.getElem_toArray, List.getElem_cons_succ, List.getElem_cons_zero, List.setIfInBounds_toArray, List.set_cons_zero, List.set_cons_succ])
      refine takeF (i := 31) (v := undef) rfl (by kernel_rfl) (fun _ _ _ h => h) (Or.inr ⟨by kernel_rfl, rfl⟩) (by assumption) ?_; (try simp only [Act.put, List.getElem_toArray, List.getElem_cons_succ, List.getElem_cons_zero, List.setIfInBounds_toArray, List.set_cons_zero, List.set_cons_succ])
      refine takeF (i := 32) (v := undef) rfl (by kernel_rfl) (fun _ _ _ h => h) (Or.inr ⟨by kernel_rfl, rfl⟩) (by assumption) ?_; (try simp only [Act.put, List.getElem_toArray, List.getElem_cons_succ, List.getElem_cons_zero, List.setIfInBounds_toArray, List.set_cons_zero, List.set_cons_succ])
      refine takeF (i := 33) (v := ?_) rfl (by kernel_rfl) (fun _ _ _ h => h) (Or.inl ⟨by kernel_rfl, ?_⟩) (by assumption) ?_; rotate_left; (focus (intro w _; go_simp; (try with_reducible rfl); done)); (try simp only [Act.put, List.getElem_toArray, List.getElem_cons_succ, List.getElem_cons_zero, List.setIfInBounds_toArray, List.set_cons_zero, List.set_cons_succ])
      refine takeF (i := 34) (v := ?_) rfl (by kernel_rfl) (fun _ _ _ h => h) (Or.inl ⟨by kernel_rfl, ?_⟩) (by assumption) ?_; rotate_left; (focus (intro w _; go_simp; (try with_reducible rfl); done)); (try simp only [Act.put, List.getElem_toArray, List.getElem_cons_succ, List.getElem_cons_zero, List.setIfInBounds_toArray, List.set_cons_zero, List.set_cons_succ])
      clear hHeld
      refine doneS (by kernel_rfl) ?_ _
      go_wp2
      go_meet
      case rel => exact ⟨rfl, HDa.out⟩
    · have hx := Hx1.out rfl
      have HRP := Lib.hid (fun W h => HRPut.out W h rfl)
      simp only [if_true] at HCk ⊢
      have hcv := fun (W : World) (hb : Below w5.heap.size w5 W) => conv_rd (P := Try.prog) (hx.below hb) 78 5 9 Try.underlying78 Try.underlying5 Try.underlying9
      obtain ⟨Sx, hSx⟩ : ∃ S, bstr NB = S := ⟨_, rfl⟩
      rw [hSx] at hcv
      have HSx := Lib.hid hSx
      have hss : (Sx == Sx) = true := (MapKept.bytes_beq _ _).2 rfl
      have hss2 : (Sx != Sx) = false := by rw [bne, hss]; rfl
      have HQ : Hid (∀ W', Below w5.heap.size w5 W' → (W'.cell? ⟨w.heap.size, 0, none⟩ = some (.bool lf) ∧ W'.cell? ⟨w.heap.size, 1, none⟩ = some (.slice A0 l.length c') ∧ W'.cell? ⟨w.heap.size, 2, none⟩ = some (.int .i64 next) ∧ W'.cell? ⟨w.heap.size, 3, none⟩ = some (.int .i64 (ks 0)) ∧ W'.cell? ⟨w.heap.size, 4, none⟩ = some (.int .i64 (ks 1)) ∧ W'.cell? ⟨w.heap.size, 5, none⟩ = some (.int .i64 (ks 2)) ∧ W'.cell? ⟨w.heap.size, 6, none⟩ = some (.int .i64 (ks 3)) ∧ W'.cell? ⟨w.heap.size, 7, none⟩ = some (.int .i64 (cs 0)) ∧ W'.cell? ⟨w.heap.size, 8, none⟩ = some (.int .i64 (cs 1)) ∧ W'.cell? ⟨w.heap.size, 9, none⟩ = some (.int .i64 (cs 2)) ∧ W'.cell? ⟨w.heap.size, 10, none⟩ = some (.int .i64 (cs 3))) ∧ (convert 78 9 (.slice Ax Lx cx)).run Try.prog W' = .ok (.string Sx) W') := Lib.hid (fun W' hb => ⟨nd_all (n := ⟨lf, .slice A0 l.length c', l, next, ks, cs⟩) (block_up HX5.out hb), hcv W' hb⟩)
      clear hx hcv hSx
      refine beginS (S := fun W' => (W'.cell? ⟨w.heap.size, 0, none⟩ = some (.bool lf) ∧ W'.cell? ⟨w.heap.size, 1, none⟩ = some (.slice A0 l.length c') ∧ W'.cell? ⟨w.heap.size, 2, none⟩ = some (.int .i64 next) ∧ W'.cell? ⟨w.heap.size, 3, none⟩ = some (.int .i64 (ks 0)) ∧ W'.cell? ⟨w.heap.size, 4, none⟩ = some (.int .i64 (ks 1)) ∧ W'.cell? ⟨w.heap.size, 5, none⟩ = some (.int .i64 (ks 2)) ∧ W'.cell? ⟨w.heap.size, 6, none⟩ = some (.int .i64 (ks 3)) ∧ W'.cell? ⟨w.heap.size, 7, none⟩ = some (.int .i64 (cs 0)) ∧ W'.cell? ⟨w.heap.size, 8, none⟩ = some (.int .i64 (cs 1)) ∧ W'.cell? ⟨w.heap.size, 9, none⟩ = some (.int .i64 (cs 2)) ∧ W'.cell? ⟨w.heap.size, 10, none⟩ = some (.int .i64 (cs 3))) ∧ (convert 78 9 (.slice Ax Lx cx)).run Try.prog W' = .ok (.string Sx) W') [] (by kernel_rfl) (HQ.out _ below_drew1) (fun hHeld0 => ?_)
      have HD := Lib.hid (below_drew1 (w := w5))
      generalize (World.drew w5) = W0 at *
      refine takeH (i := 0) (v := ?_) rfl (by kernel_rfl) (fun _ _ _ h => h) (Or.inl ⟨by kernel_rfl, ?_⟩) (by assumption) ?_; rotate_left; (focus (intro w hSw; (try dsimp only at hSw); go_simp; (try with_reducible rfl); done)); (try simp only [Act.put, List.getElem_toArray, List.getElem_cons_succ, List.getElem_cons_zero, List.setIfInBounds_toArray, List.set_cons_zero, List.set_cons_succ])
      refine takeF (i := 3) (v := ?_) rfl (by kernel_rfl) (fun _ _ _ h => h) (Or.inl ⟨by kernel_rfl, ?_⟩) (by assumption) ?_; rotate_left; (focus (intro w _; go_simp; (try with_reducible rfl); done)); (try simp only [Act.put, List.getElem_toArray, List.getElem_cons_succ, List.getElem_cons_zero, List.setIfInBounds_toArray, List.set_cons_zero, List.set_cons_succ])
      clear hHeld0
      refine readyS (rs := [1]) (by kernel_rfl) (by simp) ?_
      refine ReadyS.consH rfl (fun K hK => ?_) ReadyS.nil
      (try simp only [List.getElem_toArray, List.getElem_cons_succ, List.getElem_cons_zero])
      go_simp
      refine (HCk.out W0 (HP.out.below (below_up HB5.out HD.out))).mono ?_; rintro e Wa ⟨rfl, hb⟩
      have HDa := Lib.hid (below_up HD.out hb)
      clear hb
      refine hK.out _ _ (HQ.out _ HDa.out) (fun hHeld => ?_)
      clear hK K
      (try simp only [Act.put, List.getElem_toArray, List.getElem_cons_succ, List.getElem_cons_zero, List.setIfInBounds_toArray, List.set_cons_zero, List.set_cons_succ])
      refine takeF (i := 2) (v := ?_) rfl (by kernel_rfl) (fun _ _ _ h => h) (Or.inl ⟨by kernel_rfl, ?_⟩) (by assumption) ?_; rotate_left; (focus (intro w _; go_simp; (try with_reducible rfl); done)); (try simp only [Act.put, List.getElem_toArray, List.getElem_cons_succ, List.getElem_cons_zero, List.setIfInBounds_toArray, List.set_cons_zero, List.set_cons_succ])
      refine takeF (i := 4) (v := ?_) rfl (by kernel_rfl) (fun _ _ _ h => h) (Or.inl ⟨by kernel_rfl, ?_⟩) (by assumption) ?_; rotate_left; (focus (intro w _; go_simp; (try with_reducible rfl); done)); (try simp only [Act.put, List.getElem_toArray, List.getElem_cons_succ, List.getElem_cons_zero, List.setIfInBounds_toArray, List.set_cons_zero, List.set_cons_succ])
      refine takeF (i := 5) (v := ?_) rfl (by kernel_rfl) (fun _ _ _ h => h) (Or.inl ⟨by kernel_rfl, ?_⟩) (by assumption) ?_; rotate_left; (focus (intro w _; go_simp; (try with_reducible rfl); done)); (try simp only [Act.put, List.getElem_toArray, List.getElem_cons_succ, List.getElem_cons_zero, List.setIfInBounds_toArray, List.set_cons_zero, List.set_cons_succ])
      refine takeF (i := 6) (v := ?_) rfl (by kernel_rfl) (fun _ _ _ h => h) (Or.inl ⟨by kernel_rfl, ?_⟩) (by assumption) ?_; rotate_left; (focus (intro w _; go_simp; (try with_reducible rfl); done)); (try simp only [Act.put, List.getElem_toArray, List.getElem_cons_succ, List.getElem_cons_zero, List.setIfInBounds_toArray, List.set_cons_zero, List.set_cons_succ])
      refine takeF (i := 7) (v := ?_) rfl (by kernel_rfl) (fun _ _ _ h => h) (Or.inl ⟨by kernel_rfl, ?_⟩) (by assumption) ?_; rotate_left; (focus (intro w _; go_simp; (try with_reducible rfl); done)); (try simp only [Act.put, List.getElem_toArray, List.getElem_cons_succ, List.getElem_cons_zero, List.setIfInBounds_toArray, List.set_cons_zero, List.set_cons_succ])
      refine takeF (i := 8) (v := ?_) rfl (by kernel_rfl) (fun _ _ _ h => h) (Or.inl ⟨by kernel_rfl, ?_⟩) (by assumption) ?_; rotate_left; (focus (intro w _; go_simp; (try with_reducible rfl); done)); (try simp only [Act.put, List.getElem_toArray, List.getElem_cons_succ, List.getElem_cons_zero, List.setIfInBounds_toArray, List.set_cons_zero, List.set_cons_succ])
      refine takeF (i := 9) (v := ?_) rfl (by kernel_rfl) (fun _ _ _ h => h) (Or.inl ⟨by kernel_rfl, ?_⟩) (by assumption) ?_; rotate_left; (focus (intro w _; go_simp; (try with_reducible rfl); done)); (try simp only [Act.put, List.getElem_toArray, List.getElem_cons_succ, List.getElem_cons_zero, List.setIfInBounds_toArray, List.set_cons_zero, List.set_cons_succ])
      refine takeF (i := 10) (v := ?_) rfl (by kernel_rfl) (fun _ _ _ h => h) (Or.inl ⟨by kernel_rfl, ?_⟩) (by assumption) ?_; rotate_left; (focus (intro w _; go_simp; (try with_reducible rfl); done)); (try simp only [Act.put, List.getElem_toArray, List.getElem_cons_succ, List.getElem_cons_zero, List.setIfInBounds_toArray, List.set_cons_zero, List.set_cons_succ])
      refine takeF (i := 11) (v := ?_) rfl (by kernel_rfl) (fun _ _ _ h => h) (Or.inl ⟨by kernel_rfl, ?_⟩) (by assumption) ?_; rotate_left; (focus (intro w _; go_simp; (try with_reducible rfl); done)); (try simp only [Act.put, List.getElem_toArray, List.getElem_cons_succ, List.getElem_cons_zero, List.setIfInBounds_toArray, List.set_cons_zero, List.set_cons_succ])
      refine takeF (i := 12) (v := ?_) rfl (by kernel_rfl) (fun _ _ _ h => h) (Or.inl ⟨by kernel_rfl, ?_⟩) (by assumption) ?_; rotate_left; (focus (intro w _; go_simp; (try with_reducible rfl); done)); (try simp only [Act.put, List.getElem_toArray, List.getElem_cons_succ, List.getElem_cons_zero, List.setIfInBounds_toArray, List.set_cons_zero, List.set_cons_succ])
      refine takeF (i := 13) (v := ?_) rfl (by kernel_rfl) (fun _ _ _ h => h) (Or.inl ⟨by kernel_rfl, ?_⟩) (by assumption) ?_; rotate_left; (focus (intro w _; go_simp; (try with_reducible rfl); done)); (try simp only [Act.put, List.getElem_toArray, List.getElem_cons_succ, List.getElem_cons_zero, List.setIfInBounds_toArray, List.set_cons_zero, List.set_cons_succ])
      refine takeF (i := 14) (v := ?_) rfl (by kernel_rfl) (fun _ _ _ h => h) (Or.inl ⟨by kernel_rfl, ?_⟩) (by assumption) ?_; rotate_left; (focus (intro w _; go_simp; (try with_reducible rfl); done)); (try simp only [Act.put, List.getElem_toArray, List.getElem_cons_succ, List.getElem_cons_zero, List.setIfInBounds_toArray, List.set_cons_zero, List.set_cons_succ])
      refine takeF (i := 15) (v := undef) rfl (by kernel_rfl) (fun _ _ _ h => h) (Or.inr ⟨by kernel_rfl, rfl⟩) (by assumption) ?_; (try simp only [Act.put, List.getElem_toArray, List.getElem_cons_succ, List.getElem_cons_zero, List.setIfInBounds_toArray, List.set_cons_zero, List.set_cons_succ])
      refine takeF (i := 16) (v := undef) rfl (by kernel_rfl) (fun _ _ _ h => h) (Or.inr ⟨by kernel_rfl, rfl⟩) (by assumption) ?_; (try simp only [Act.put, List.getElem_toArray, List.getElem_cons_succ, List.getElem_cons_zero, List.setIfInBounds_toArray, List.set_cons_zero, List.set_cons_succ])
      refine takeF (i := 17) (v := undef) rfl (by kernel_rfl) (fun _ _ _ h => h) (Or.inr ⟨by kernel_rfl, rfl⟩) (by assumption) ?_; (try simp only [Act.put, List.getElem_toArray, List.getElem_cons_succ, List.getElem_cons_zero, List.setIfInBounds_toArray, List.set_cons_zero, List.set_cons_succ])
      refine takeF (i := 18) (v := undef) rfl (by kernel_rfl) (fun _ _ _ h => h) (Or.inr ⟨by kernel_rfl, rfl⟩) (by assumption) ?_; (try simp only [Act.put, List.getElem_toArray, List.getElem_cons_succ, List.getElem_cons_zero, List.setIfInBounds_toArray, List.set_cons_zero, List.set_cons_succ])
      refine takeF (i := 19) (v := undef) rfl (by kernel_rfl) (fun _ _ _ h => h) (Or.inr ⟨by kernel_rfl, rfl⟩) (by assumption) ?_; (try simp only [Act.put, List.getElem_toArray, List.getElem_cons_succ, List.getElem_cons_zero, List.setIfInBounds_toArray, List.set_cons_zero, List.set_cons_succ])
      refine takeF (i := 20) (v := undef) rfl (by kernel_rfl) (fun _ _ _ h => h) (Or.inr ⟨by kernel_rfl, rfl⟩) (by assumption) ?_; (try simp only [Act.put, List.getElem_toArray, List.getElem_cons_succ, List.getElem_cons_zero, List.setIfInBounds_toArray, List.set_cons_zero, List.set_cons_succ])
      refine takeF (i := 21) (v := undef) rfl (by kernel_rfl) (fun _ _ _ h => h) (Or.inr ⟨by kernel_rfl, rfl⟩) (by assumption) ?_; (try simp only [Act.put, List.getElem_toArray, List.getElem_cons_succ, List.getElem_cons_zero, List.setIfInBounds_toArray, List.set_cons_zero, List.set_cons_succ])
      refine takeF (i := 22) (v := ?_) rfl (by kernel_rfl) (fun _ _ _ h => h) (Or.inl ⟨by kernel_rfl, ?_⟩) (by assumption) ?_; rotate_left; (focus (intro w _; go_simp; (try with_reducible rfl); done)); (try simp only [Act.put, List.getElem_toArray, List.getElem_cons_succ, List.getElem_cons_zero, List.setIfInBounds_toArray, List.set_cons_zero, List.set_cons_succ])
      refine takeF (i := 23) (v := ?_) rfl (by kernel_rfl) (fun _ _ _ h => h) (Or.inl ⟨by kernel_rfl, ?_⟩) (by assumption) ?_; rotate_left; (focus (intro w _; go_simp; (try with_reducible rfl); done)); (try simp only [Act.put, List.getElem_toArray, List.getElem_cons_succ, List.getElem_cons_zero, List.setIfInBounds_toArray, List.set_cons_zero, List.set_cons_succ])
      refine takeF (i := 24) (v := ?_) rfl (by kernel_rfl) (fun _ _ _ h => h) (Or.inl ⟨by kernel_rfl, ?_⟩) (by assumption) ?_; rotate_left; (focus (intro w _; go_simp; (try with_reducible rfl); done)); (try simp only [Act.put, List.getElem_toArray, List.getElem_cons_succ, List.getElem_cons_zero, List.setIfInBounds_toArray, List.set_cons_zero, List.set_cons_succ])
      refine takeF (i := 25) (v := ?_) rfl (by kernel_rfl) (fun _ _ _ h => h) (Or.inl ⟨by kernel_rfl, ?_⟩) (by assumption) ?_; rotate_left; (focus (intro w _; go_simp; (try with_reducible rfl); done)); (try simp only [Act.put, List.getElem_toArray, List.getElem_cons_succ, List.getElem_cons_zero, List.setIfInBounds_toArray, List.set_cons_zero, List.set_cons_succ])
      refine takeF (i := 26) (v := ?_) rfl (by kernel_rfl) (fun _ _ _ h => h) (Or.inl ⟨by kernel_rfl, ?_⟩) (by assumption) ?_; rotate_left; (focus (intro w _; go_simp; (try with_reducible rfl); done)); (try simp only [Act.put, List.getElem_toArray, List.getElem_cons_succ, List.getElem_cons_zero, List.setIfInBounds_toArray, List.set_cons_zero, List.set_cons_succ])
      refine takeF (i := 27) (v := ?_) rfl (by kernel_rfl) (fun _ _ _ h => h) (Or.inl ⟨by kernel_rfl, ?_⟩) (by assumption) ?_; rotate_left; (focus (intro w _; go_simp; (try with_reducible rfl); done)); (try simp only [Act.put, List.getElem_toArray, List.getElem_cons_succ, List.getElem_cons_zero, List.setIfInBounds_toArray, List.set_cons_zero, List.set_cons_succ])
      refine takeH (i := 28) (v := ?_) rfl (by kernel_rfl) (fun _ _ _ h => h) (Or.inl ⟨by kernel_rfl, ?_⟩) (by assumption) ?_; rotate_left; (focus (intro w hSw; (try dsimp only at hSw); go_simp; (try with_reducible rfl); done)); (try simp only [Act.put, List.getElem_toArray, List.getElem_cons_succ, List.getElem_cons_zero, List.setIfInBounds_toArray, List.set_cons_zero, List.set_cons_succ])
      refine takeH (i := 29) (v := ?_) rfl (by kernel_rfl) (fun _ _ _ h => h) (Or.inl ⟨by kernel_rfl, ?_⟩) (by assumption) ?_; rotate_left; (focus (intro w hSw; (try dsimp only at hSw); go_simp; (try with_reducible rfl); done)); (try simp only [Act.put, List.getElem_toArray, List.getElem_cons_succ, List.getElem_cons_zero, List.setIfInBounds_toArray, List.set_cons_zero, List.set_cons_succ])
      clear hHeld
      refine readyS (rs := [30]) (by kernel_rfl) (by simp) ?_
      refine ReadyS.consH rfl (fun K hK => ?_) ReadyS.nil
      (try simp only [List.getElem_toArray, List.getElem_cons_succ, List.getElem_cons_zero])
      go_simp
      refine (HRP.out Wa (HP.out.below (below_up HB5.out HDa.out))).mono ?_; rintro e Wb ⟨vz, rfl, hz, hb⟩
      have HDb := Lib.hid (below_up HDa.out hb)
      have hcz := conv_rd (P := Try.prog) hz 78 5 9 Try.underlying78 Try.underlying5 Try.underlying9
      rw [HSx.out] at hcz
      obtain ⟨Az, cz, rfl, _, _, _⟩ := id hz
      clear hb hz
      refine hK.out _ _ (HQ.out _ HDb.out) (fun hHeld => ?_)
      clear hK K
      (try simp only [Act.put, List.getElem_toArray, List.getElem_cons_succ, List.getElem_cons_zero, List.setIfInBounds_toArray, List.set_cons_zero, List.set_cons_succ])
      clear hHeld
      refine readyS (rs := [31]) (by kernel_rfl) (by simp) ?_
      refine ReadyS.consH rfl (fun K hK => ?_) ReadyS.nil
      (try simp only [List.getElem_toArray, List.getElem_cons_succ, List.getElem_cons_zero])
      go_simp
      refine hK.out _ _ (HQ.out _ HDb.out) (fun hHeld => ?_)
      clear hK K
      (try simp only [Act.put, List.getElem_toArray, List.getElem_cons_succ, List.getElem_cons_zero, List.setIfInBounds_toArray, List.set_cons_zero, List.set_cons_succ])
      refine takeF (i := 32) (v := ?_) rfl (by kernel_rfl) (fun _ _ _ h => h) (Or.inl ⟨by kernel_rfl, ?_⟩) (by assumption) ?_; rotate_left; (focus (intro w _; go_simp; (try with_reducible rfl); done)); (try simp only [Act.put, List.getElem_toArray, List.getElem_cons_succ, List.getElem_cons_zero, List.setIfInBounds_toArray, List.set_cons_zero, List.set_cons_succ])
      refine takeF (i := 33) (v := ?_) rfl (by kernel_rfl) (fun _ _ _ h => h) (Or.inl ⟨by kernel_rfl, ?_⟩) (by assumption) ?_; rotate_left; (focus (intro w _; go_simp; (try with_reducible rfl); done)); (try simp only [Act.put, List.getElem_toArray, List.getElem_cons_succ, List.getElem_cons_zero, List.setIfInBounds_toArray, List.set_cons_zero, List.set_cons_succ])
      refine takeF (i := 34) (v := ?_) rfl (by kernel_rfl) (fun _ _ _ h => h) (Or.inl ⟨by kernel_rfl, ?_⟩) (by assumption) ?_; rotate_left; (focus (intro w _; go_simp; (try with_reducible rfl); done)); (try simp only [Act.put, List.getElem_toArray, List.getElem_cons_succ, List.getElem_cons_zero, List.setIfInBounds_toArray, List.set_cons_zero, List.set_cons_succ])
      clear hHeld
      refine doneS (by kernel_rfl) ?_ _
      go_wp2
      go_meet
      case rel => exact ⟨rfl, HDb.out⟩
  case rest =>
  obtain ⟨rfl, hb⟩ := hcut
  generalize (if M = true then (0 : Int) else 9) = E9
  have HX6 := Lib.hid (block_up HX5.out hb); have HM6 := Lib.hid (block_up HM5.out hb); have HB6 := Lib.hid (below_up HB5.out hb)
  clear hb HX5 HM5 HB5 Hx1 Hx0
  have n6 := nd_all HX6.out
  simp only at n6
  go_upto_if 83 with (fail)
  go_cut [10] (fun v10 wx => v10 = .int .i64 T ∧ wx = wc)
  case first =>
    cases lf
    · go_wp2
      go_meet
      case rel => exact ⟨by rw [← HTe.out]; rfl, rfl⟩
    · go_wp2
      go_meet
      case rel => exact ⟨by rw [← HTe.out]; rfl, rfl⟩
  case rest =>
  obtain ⟨rfl, hw⟩ := hcut
  replace hw := hw.symm; subst hw
  clear n6
  have HRd := Lib.hid (nread_ok v b wc (HV.out.below HB6.out) hlb2)
  go_wp2_with fail
  (with_reducible refine HRd.out.mono ?_); rintro e wa ⟨hE, hba⟩
  have HX7 := Lib.hid (block_up HX6.out hba); have HM7 := Lib.hid (block_up HM6.out hba); have HB7 := Lib.hid (below_up HB6.out hba)
  clear hba HX6 HM6 HB6
  have HRr := Lib.hid (fun W (h : Below w.heap.size w W) => rread_ok v b W (HV.out.below h) hlb)
  rcases hE with ⟨d, v', hr, rfl, ho⟩ | ⟨hno, rfl⟩
  · obtain ⟨Ay, cy, rfl, _⟩ := own_rd ho
    have hdl := reads_small hr
    have HPy0 := Lib.hid (srd_own PtS.cells_len (by decide) ho)
    have HRd2 := Lib.hid hr
    clear hr ho
    have hbx := below_alloc1 wa (.cells (ncells (d.nd (.slice Ay d.pts.length cy))) 49)
    have HYa := Lib.hid (alloc_at (w := wa) (.cells (ncells (d.nd (.slice Ay d.pts.length cy))) 49) rfl)
    have HX8 := Lib.hid (block_up HX7.out hbx); have HM8 := Lib.hid (block_up HM7.out hbx); have HB8 := Lib.hid (below_up HB7.out hbx)
    have HPy1 := Lib.hid (HPy0.out.below hbx)
    clear hbx HX7 HM7 HB7 HPy0
    obtain ⟨lfy, ptsy, nexty, ksy, csy⟩ := d
    simp only [NdD.nd] at HYa HPy1 HX8 HM8 HB8 hdl ⊢
    go_upto_region 13 with (fail)
    generalize wa.heap.size = gy at *
    generalize World.alloc wa _ = wb at *
    have HRr2 := Lib.hid (HRr.out wb HB8.out)
    go_wp2_with fail
    (with_reducible refine HRr2.out.mono ?_); rintro e wz ⟨hE2, hbz⟩
    rcases hE2 with ⟨d2, v2, hr2, rfl, ho2⟩ | ⟨hno2, rfl⟩
    · have hde := reads_one ((reads_ref b d2).2 hr2) HRd2.out
      subst hde
      obtain ⟨Az, cz, rfl, _⟩ := own_rd ho2
      have HPz0 := Lib.hid (srd_own PtS.cells_len (by decide) ho2)
      have HX9a := Lib.hid (block_up HX8.out hbz); have HM9a := Lib.hid (block_up HM8.out hbz); have HB9a := Lib.hid (below_up HB8.out hbz)
      have HYb := Lib.hid (block_up HYa.out hbz); have HPy2 := Lib.hid (HPy1.out.below hbz)
      clear hbz ho2 hr2 HX8 HM8 HB8 HYa HPy1
      simp only [NdD.nd] at HPz0 ⊢
      have hbx := below_alloc1 wz (.cells (ncells ⟨lfy, .slice Az ptsy.length cz, ptsy, nexty, ksy, csy⟩) 49)
      have HZ9 := Lib.hid (alloc_at (w := wz) (.cells (ncells ⟨lfy, .slice Az ptsy.length cz, ptsy, nexty, ksy, csy⟩) 49) rfl)
      have HX9 := Lib.hid (block_up HX9a.out hbx); have HM9 := Lib.hid (block_up HM9a.out hbx); have HB9 := Lib.hid (below_up HB9a.out hbx)
      have HY9 := Lib.hid (block_up HYb.out hbx); have HPy := Lib.hid (HPy2.out.below hbx); have HPz := Lib.hid (HPz0.out.below hbx)
      clear hbx HX9a HM9a HB9a HYb HPy2 HPz0
      have hsm := fun W (h : PRd W (.slice Ay ptsy.length cy) ptsy) (h1 : PRd W (.slice Az ptsy.length cz) ptsy) => rsame_ok ⟨lfy, .slice Ay ptsy.length cy, ptsy, nexty, ksy, csy⟩ ⟨lfy, .slice Az ptsy.length cz, ptsy, nexty, ksy, csy⟩ W h h1 hdl hdl
      simp only [sameB_t (a := ⟨lfy, .slice Ay ptsy.length cy, ptsy, nexty, ksy, csy⟩) (b := ⟨lfy, .slice Az ptsy.length cz, ptsy, nexty, ksy, csy⟩) ⟨rfl, rfl, fun _ _ => rfl, fun _ _ => rfl, rfl⟩] at hsm
      have HSame2 := Lib.hid hsm
      clear hsm
      go_upto_region 14 with (fail)
      generalize wz.heap.size = gz at *
      generalize World.alloc wz _ = w9 at *
      have HQ : Hid (∀ W', Below w9.heap.size w9 W' → (W'.cell? ⟨gy, 0, none⟩ = some (.bool lfy) ∧ W'.cell? ⟨gy, 1, none⟩ = some (.slice Ay ptsy.length cy) ∧ W'.cell? ⟨gy, 2, none⟩ = some (.int .i64 nexty) ∧ W'.cell? ⟨gy, 3, none⟩ = some (.int .i64 (ksy 0)) ∧ W'.cell? ⟨gy, 4, none⟩ = some (.int .i64 (ksy 1)) ∧ W'.cell? ⟨gy, 5, none⟩ = some (.int .i64 (ksy 2)) ∧ W'.cell? ⟨gy, 6, none⟩ = some (.int .i64 (ksy 3)) ∧ W'.cell? ⟨gy, 7, none⟩ = some (.int .i64 (csy 0)) ∧ W'.cell? ⟨gy, 8, none⟩ = some (.int .i64 (csy 1)) ∧ W'.cell? ⟨gy, 9, none⟩ = some (.int .i64 (csy 2)) ∧ W'.cell? ⟨gy, 10, none⟩ = some (.int .i64 (csy 3))) ∧ (W'.cell? ⟨gz, 0, none⟩ = some (.bool lfy) ∧ W'.cell? ⟨gz, 1, none⟩ = some (.slice Az ptsy.length cz) ∧ W'.cell? ⟨gz, 2, none⟩ = some (.int .i64 nexty) ∧ W'.cell? ⟨gz, 3, none⟩ = some (.int .i64 (ksy 0)) ∧ W'.cell? ⟨gz, 4, none⟩ = some (.int .i64 (ksy 1)) ∧ W'.cell? ⟨gz, 5, none⟩ = some (.int .i64 (ksy 2)) ∧ W'.cell? ⟨gz, 6, none⟩ = some (.int .i64 (ksy 3)) ∧ W'.cell? ⟨gz, 7, none⟩ = some (.int .i64 (csy 0)) ∧ W'.cell? ⟨gz, 8, none⟩ = some (.int .i64 (csy 1)) ∧ W'.cell? ⟨gz, 9, none⟩ = some (.int .i64 (csy 2)) ∧ W'.cell? ⟨gz, 10, none⟩ = some (.int .i64 (csy 3))) ∧ (W'.cell? ⟨w.heap.size, 0, none⟩ = some (.bool lf) ∧ W'.cell? ⟨w.heap.size, 1, none⟩ = some (.slice A0 l.length c') ∧ W'.cell? ⟨w.heap.size, 2, none⟩ = some (.int .i64 next) ∧ W'.cell? ⟨w.heap.size, 3, none⟩ = some (.int .i64 (ks 0)) ∧ W'.cell? ⟨w.heap.size, 4, none⟩ = some (.int .i64 (ks 1)) ∧ W'.cell? ⟨w.heap.size, 5, none⟩ = some (.int .i64 (ks 2)) ∧ W'.cell? ⟨w.heap.size, 6, none⟩ = some (.int .i64 (ks 3)) ∧ W'.cell? ⟨w.heap.size, 7, none⟩ = some (.int .i64 (cs 0)) ∧ W'.cell? ⟨w.heap.size, 8, none⟩ = some (.int .i64 (cs 1)) ∧ W'.cell? ⟨w.heap.size, 9, none⟩ = some (.int .i64 (cs 2)) ∧ W'.cell? ⟨w.heap.size, 10, none⟩ = some (.int .i64 (cs 3))) ∧ (W'.cell? ⟨(w.heap.size + 1), 0, none⟩ = some (.bool lf1) ∧ W'.cell? ⟨(w.heap.size + 1), 1, none⟩ = some (.slice A1 pts1.length c1) ∧ W'.cell? ⟨(w.heap.size + 1), 2, none⟩ = some (.int .i64 next1) ∧ W'.cell? ⟨(w.heap.size + 1), 3, none⟩ = some (.int .i64 (ks1 0)) ∧ W'.cell? ⟨(w.heap.size + 1), 4, none⟩ = some (.int .i64 (ks1 1)) ∧ W'.cell? ⟨(w.heap.size + 1), 5, none⟩ = some (.int .i64 (ks1 2)) ∧ W'.cell? ⟨(w.heap.size + 1), 6, none⟩ = some (.int .i64 (ks1 3)) ∧ W'.cell? ⟨(w.heap.size + 1), 7, none⟩ = some (.int .i64 (cs1 0)) ∧ W'.cell? ⟨(w.heap.size + 1), 8, none⟩ = some (.int .i64 (cs1 1)) ∧ W'.cell? ⟨(w.heap.size + 1), 9, none⟩ = some (.int .i64 (cs1 2)) ∧ W'.cell? ⟨(w.heap.size + 1), 10, none⟩ = some (.int .i64 (cs1 3)))) := Lib.hid (fun W' hb => ⟨nd_all (n := ⟨lfy, .slice Ay ptsy.length cy, ptsy, nexty, ksy, csy⟩) (block_up HY9.out hb), nd_all (n := ⟨lfy, .slice Az ptsy.length cz, ptsy, nexty, ksy, csy⟩) (block_up HZ9.out hb), nd_all (n := ⟨lf, .slice A0 l.length c', l, next, ks, cs⟩) (block_up HX9.out hb), nd_all (n := ⟨lf1, .slice A1 pts1.length c1, pts1, next1, ks1, cs1⟩) (block_up HM9.out hb)⟩)
      refine beginS (S := fun W' => (W'.cell? ⟨gy, 0, none⟩ = some (.bool lfy) ∧ W'.cell? ⟨gy, 1, none⟩ = some (.slice Ay ptsy.length cy) ∧ W'.cell? ⟨gy, 2, none⟩ = some (.int .i64 nexty) ∧ W'.cell? ⟨gy, 3, none⟩ = some (.int .i64 (ksy 0)) ∧ W'.cell? ⟨gy, 4, none⟩ = some (.int .i64 (ksy 1)) ∧ W'.cell? ⟨gy, 5, none⟩ = some (.int .i64 (ksy 2)) ∧ W'.cell? ⟨gy, 6, none⟩ = some (.int .i64 (ksy 3)) ∧ W'.cell? ⟨gy, 7, none⟩ = some (.int .i64 (csy 0)) ∧ W'.cell? ⟨gy, 8, none⟩ = some (.int .i64 (csy 1)) ∧ W'.cell? ⟨gy, 9, none⟩ = some (.int .i64 (csy 2)) ∧ W'.cell? ⟨gy, 10, none⟩ = some (.int .i64 (csy 3))) ∧ (W'.cell? ⟨gz, 0, none⟩ = some (.bool lfy) ∧ W'.cell? ⟨gz, 1, none⟩ = some (.slice Az ptsy.length cz) ∧ W'.cell? ⟨gz, 2, none⟩ = some (.int .i64 nexty) ∧ W'.cell? ⟨gz, 3, none⟩ = some (.int .i64 (ksy 0)) ∧ W'.cell? ⟨gz, 4, none⟩ = some (.int .i64 (ksy 1)) ∧ W'.cell? ⟨gz, 5, none⟩ = some (.int .i64 (ksy 2)) ∧ W'.cell? ⟨gz, 6, none⟩ = some (.int .i64 (ksy 3)) ∧ W'.cell? ⟨gz, 7, none⟩ = some (.int .i64 (csy 0)) ∧ W'.cell? ⟨gz, 8, none⟩ = some (.int .i64 (csy 1)) ∧ W'.cell? ⟨gz, 9, none⟩ = some (.int .i64 (csy 2)) ∧ W'.cell? ⟨gz, 10, none⟩ = some (.int .i64 (csy 3))) ∧ (W'.cell? ⟨w.heap.size, 0, none⟩ = some (.bool lf) ∧ W'.cell? ⟨w.heap.size, 1, none⟩ = some (.slice A0 l.length c') ∧ W'.cell? ⟨w.heap.size, 2, none⟩ = some (.int .i64 next) ∧ W'.cell? ⟨w.heap.size, 3, none⟩ = some (.int .i64 (ks 0)) ∧ W'.cell? ⟨w.heap.size, 4, none⟩ = some (.int .i64 (ks 1)) ∧ W'.cell? ⟨w.heap.size, 5, none⟩ = some (.int .i64 (ks 2)) ∧ W'.cell? ⟨w.heap.size, 6, none⟩ = some (.int .i64 (ks 3)) ∧ W'.cell? ⟨w.heap.size, 7, none⟩ = some (.int .i64 (cs 0)) ∧ W'.cell? ⟨w.heap.size, 8, none⟩ = some (.int .i64 (cs 1)) ∧ W'.cell? ⟨w.heap.size, 9, none⟩ = some (.int .i64 (cs 2)) ∧ W'.cell? ⟨w.heap.size, 10, none⟩ = some (.int .i64 (cs 3))) ∧ (W'.cell? ⟨(w.heap.size + 1), 0, none⟩ = some (.bool lf1) ∧ W'.cell? ⟨(w.heap.size + 1), 1, none⟩ = some (.slice A1 pts1.length c1) ∧ W'.cell? ⟨(w.heap.size + 1), 2, none⟩ = some (.int .i64 next1) ∧ W'.cell? ⟨(w.heap.size + 1), 3, none⟩ = some (.int .i64 (ks1 0)) ∧ W'.cell? ⟨(w.heap.size + 1), 4, none⟩ = some (.int .i64 (ks1 1)) ∧ W'.cell? ⟨(w.heap.size + 1), 5, none⟩ = some (.int .i64 (ks1 2)) ∧ W'.cell? ⟨(w.heap.size + 1), 6, none⟩ = some (.int .i64 (ks1 3)) ∧ W'.cell? ⟨(w.heap.size + 1), 7, none⟩ = some (.int .i64 (cs1 0)) ∧ W'.cell? ⟨(w.heap.size + 1), 8, none⟩ = some (.int .i64 (cs1 1)) ∧ W'.cell? ⟨(w.heap.size + 1), 9, none⟩ = some (.int .i64 (cs1 2)) ∧ W'.cell? ⟨(w.heap.size + 1), 10, none⟩ = some (.int .i64 (cs1 3)))) [] (by kernel_rfl) (HQ.out _ below_drew1) (fun hHeld0 => ?_)
      have HD := Lib.hid (below_drew1 (w := w9))
      generalize (World.drew w9) = W0 at *
      refine takeH (i := 0) (v := ?_) rfl (by kernel_rfl) (fun _ _ _ h => h) (Or.inl ⟨by kernel_rfl, ?_⟩) (by assumption) ?_; rotate_left; (focus (intro w hSw; (try dsimp only at hSw); go_simp; (try with_reducible rfl); done)); (try simp only [Act.put, List.getElem_toArray, List.getElem_cons_succ, List.getElem_cons_zero, List.setIfInBounds_toArray, List.set_cons_zero, List.set_cons_succ])
      refine takeH (i := 1) (v := ?_) rfl (by kernel_rfl) (fun _ _ _ h => h) (Or.inl ⟨by kernel_rfl, ?_⟩) (by assumption) ?_; rotate_left; (focus (intro w hSw; (try dsimp only at hSw); go_simp; (try with_reducible rfl); done)); (try simp only [Act.put, List.getElem_toArray, List.getElem_cons_succ, List.getElem_cons_zero, List.setIfInBounds_toArray, List.set_cons_zero, List.set_cons_succ])
      clear hHeld0
      refine readyS (rs := [2]) (by kernel_rfl) (by simp) ?_
      refine ReadyS.consH rfl (fun K hK => ?_) ReadyS.nil
      (try simp only [List.getElem_toArray, List.getElem_cons_succ, List.getElem_cons_zero])
      go_simp
      (with_reducible refine (HSame2.out W0 (HPy.out.below HD.out) (HPz.out.below HD.out)).mono ?_); rintro e Wa ⟨rfl, hb⟩
      have HDa := Lib.hid (below_up HD.out hb)
      clear hb
      refine hK.out _ _ (HQ.out _ HDa.out) (fun hHeld => ?_)
      clear hK K
      (try simp only [Act.put, List.getElem_toArray, List.getElem_cons_succ, List.getElem_cons_zero, List.setIfInBounds_toArray, List.set_cons_zero, List.set_cons_succ])
      refine takeF (i := 3) (v := ?_) rfl (by kernel_rfl) (fun _ _ _ h => h) (Or.inl ⟨by kernel_rfl, ?_⟩) (by assumption) ?_; rotate_left; (focus (intro w _; go_simp; (try with_reducible rfl); done)); (try simp only [Act.put, List.getElem_toArray, List.getElem_cons_succ, List.getElem_cons_zero, List.setIfInBounds_toArray, List.set_cons_zero, List.set_cons_succ])
      refine takeF (i := 4) (v := ?_) rfl (by kernel_rfl) (fun _ _ _ h => h) (Or.inl ⟨by kernel_rfl, ?_⟩) (by assumption) ?_; rotate_left; (focus (intro w _; go_simp; (try with_reducible rfl); done)); (try simp only [Act.put, List.getElem_toArray, List.getElem_cons_succ, List.getElem_cons_zero, List.setIfInBounds_toArray, List.set_cons_zero, List.set_cons_succ])
      refine takeF (i := 5) (v := ?_) rfl (by kernel_rfl) (fun _ _ _ h => h) (Or.inl ⟨by kernel_rfl, ?_⟩) (by assumption) ?_; rotate_left; (focus (intro w _; go_simp; (try with_reducible rfl); done)); (try simp only [Act.put, List.getElem_toArray, List.getElem_cons_succ, List.getElem_cons_zero, List.setIfInBounds_toArray, List.set_cons_zero, List.set_cons_succ])
      refine takeF (i := 6) (v := ?_) rfl (by kernel_rfl) (fun _ _ _ h => h) (Or.inl ⟨by kernel_rfl, ?_⟩) (by assumption) ?_; rotate_left; (focus (intro w _; go_simp; (try with_reducible rfl); done)); (try simp only [Act.put, List.getElem_toArray, List.getElem_cons_succ, List.getElem_cons_zero, List.setIfInBounds_toArray, List.set_cons_zero, List.set_cons_succ])
      refine takeF (i := 7) (v := ?_) rfl (by kernel_rfl) (fun _ _ _ h => h) (Or.inl ⟨by kernel_rfl, ?_⟩) (by assumption) ?_; rotate_left; (focus (intro w _; go_simp; (try with_reducible rfl); done)); (try simp only [Act.put, List.getElem_toArray, List.getElem_cons_succ, List.getElem_cons_zero, List.setIfInBounds_toArray, List.set_cons_zero, List.set_cons_succ])
      refine takeF (i := 8) (v := ?_) rfl (by kernel_rfl) (fun _ _ _ h => h) (Or.inl ⟨by kernel_rfl, ?_⟩) (by assumption) ?_; rotate_left; (focus (intro w _; go_simp; (try with_reducible rfl); done)); (try simp only [Act.put, List.getElem_toArray, List.getElem_cons_succ, List.getElem_cons_zero, List.setIfInBounds_toArray, List.set_cons_zero, List.set_cons_succ])
      refine takeF (i := 9) (v := ?_) rfl (by kernel_rfl) (fun _ _ _ h => h) (Or.inl ⟨by kernel_rfl, ?_⟩) (by assumption) ?_; rotate_left; (focus (intro w _; go_simp; (try with_reducible rfl); done)); (try simp only [Act.put, List.getElem_toArray, List.getElem_cons_succ, List.getElem_cons_zero, List.setIfInBounds_toArray, List.set_cons_zero, List.set_cons_succ])
      refine takeF (i := 10) (v := ?_) rfl (by kernel_rfl) (fun _ _ _ h => h) (Or.inl ⟨by kernel_rfl, ?_⟩) (by assumption) ?_; rotate_left; (focus (intro w _; go_simp; (try with_reducible rfl); done)); (try simp only [Act.put, List.getElem_toArray, List.getElem_cons_succ, List.getElem_cons_zero, List.setIfInBounds_toArray, List.set_cons_zero, List.set_cons_succ])
      refine takeF (i := 11) (v := ?_) rfl (by kernel_rfl) (fun _ _ _ h => h) (Or.inl ⟨by kernel_rfl, ?_⟩) (by assumption) ?_; rotate_left; (focus (intro w _; go_simp; (try with_reducible rfl); done)); (try simp only [Act.put, List.getElem_toArray, List.getElem_cons_succ, List.getElem_cons_zero, List.setIfInBounds_toArray, List.set_cons_zero, List.set_cons_succ])
      refine takeF (i := 12) (v := undef) rfl (by kernel_rfl) (fun _ _ _ h => h) (Or.inr ⟨by kernel_rfl, rfl⟩) (by assumption) ?_; (try simp only [Act.put, List.getElem_toArray, List.getElem_cons_succ, List.getElem_cons_zero, List.setIfInBounds_toArray, List.set_cons_zero, List.set_cons_succ])
      refine takeF (i := 13) (v := undef) rfl (by kernel_rfl) (fun _ _ _ h => h) (Or.inr ⟨by kernel_rfl, rfl⟩) (by assumption) ?_; (try simp only [Act.put, List.getElem_toArray, List.getElem_cons_succ, List.getElem_cons_zero, List.setIfInBounds_toArray, List.set_cons_zero, List.set_cons_succ])
      refine takeF (i := 14) (v := ?_) rfl (by kernel_rfl) (fun _ _ _ h => h) (Or.inl ⟨by kernel_rfl, ?_⟩) (by assumption) ?_; rotate_left; (focus (intro w _; go_simp; (try with_reducible rfl); done)); (try simp only [Act.put, List.getElem_toArray, List.getElem_cons_succ, List.getElem_cons_zero, List.setIfInBounds_toArray, List.set_cons_zero, List.set_cons_succ])
      refine takeF (i := 15) (v := ?_) rfl (by kernel_rfl) (fun _ _ _ h => h) (Or.inl ⟨by kernel_rfl, ?_⟩) (by assumption) ?_; rotate_left; (focus (intro w _; go_simp; (try with_reducible rfl); done)); (try simp only [Act.put, List.getElem_toArray, List.getElem_cons_succ, List.getElem_cons_zero, List.setIfInBounds_toArray, List.set_cons_zero, List.set_cons_succ])
      refine takeF (i := 16) (v := ?_) rfl (by kernel_rfl) (fun _ _ _ h => h) (Or.inl ⟨by kernel_rfl, ?_⟩) (by assumption) ?_; rotate_left; (focus (intro w _; go_simp; (try with_reducible rfl); done)); (try simp only [Act.put, List.getElem_toArray, List.getElem_cons_succ, List.getElem_cons_zero, List.setIfInBounds_toArray, List.set_cons_zero, List.set_cons_succ])
      refine takeH (i := 17) (v := ?_) rfl (by kernel_rfl) (fun _ _ _ h => h) (Or.inl ⟨by kernel_rfl, ?_⟩) (by assumption) ?_; rotate_left; (focus (intro w hSw; (try dsimp only at hSw); go_simp; (try with_reducible rfl); done)); (try simp only [Act.put, List.getElem_toArray, List.getElem_cons_succ, List.getElem_cons_zero, List.setIfInBounds_toArray, List.set_cons_zero, List.set_cons_succ])
      refine takeF (i := 19) (v := ?_) rfl (by kernel_rfl) (fun _ _ _ h => h) (Or.inl ⟨by kernel_rfl, ?_⟩) (by assumption) ?_; rotate_left; (focus (intro w _; go_simp; (try with_reducible rfl); done)); (try simp only [Act.put, List.getElem_toArray, List.getElem_cons_succ, List.getElem_cons_zero, List.setIfInBounds_toArray, List.set_cons_zero, List.set_cons_succ])
      clear hHeld
      refine readyS (rs := [18]) (by kernel_rfl) (by simp) ?_
      refine ReadyS.consH rfl (fun K hK => ?_) ReadyS.nil
      (try simp only [List.getElem_toArray, List.getElem_cons_succ, List.getElem_cons_zero])
      go_simp
      (with_reducible refine (HTot.out Wa (HP.out.below (below_up HB9.out HDa.out))).mono ?_); rintro e Wb ⟨rfl, hb⟩
      have HDb := Lib.hid (below_up HDa.out hb)
      clear hb
      refine hK.out _ _ (HQ.out _ HDb.out) (fun hHeld => ?_)
      clear hK K
      (try simp only [Act.put, List.getElem_toArray, List.getElem_cons_succ, List.getElem_cons_zero, List.setIfInBounds_toArray, List.set_cons_zero, List.set_cons_succ])
      refine takeF (i := 20) (v := ?_) rfl (by kernel_rfl) (fun _ _ _ h => h) (Or.inl ⟨by kernel_rfl, ?_⟩) (by assumption) ?_; rotate_left; (focus (intro w _; go_simp; (try with_reducible rfl); done)); (try simp only [Act.put, List.getElem_toArray, List.getElem_cons_succ, List.getElem_cons_zero, List.setIfInBounds_toArray, List.set_cons_zero, List.set_cons_succ])
      refine takeF (i := 21) (v := ?_) rfl (by kernel_rfl) (fun _ _ _ h => h) (Or.inl ⟨by kernel_rfl, ?_⟩) (by assumption) ?_; rotate_left; (focus (intro w _; go_simp; (try with_reducible rfl); done)); (try simp only [Act.put, List.getElem_toArray, List.getElem_cons_succ, List.getElem_cons_zero, List.setIfInBounds_toArray, List.set_cons_zero, List.set_cons_succ])
      refine takeF (i := 22) (v := ?_) rfl (by kernel_rfl) (fun _ _ _ h => h) (Or.inl ⟨by kernel_rfl, ?_⟩) (by assumption) ?_; rotate_left; (focus (intro w _; go_simp; (try with_reducible rfl); done)); (try simp only [Act.put, List.getElem_toArray, List.getElem_cons_succ, List.getElem_cons_zero, List.setIfInBounds_toArray, List.set_cons_zero, List.set_cons_succ])
      refine takeH (i := 23) (v := ?_) rfl (by kernel_rfl) (fun _ _ _ h => h) (Or.inl ⟨by kernel_rfl, ?_⟩) (by assumption) ?_; rotate_left; (focus (intro w hSw; (try dsimp only at hSw); go_simp; (try with_reducible rfl); done)); (try simp only [Act.put, List.getElem_toArray, List.getElem_cons_succ, List.getElem_cons_zero, List.setIfInBounds_toArray, List.set_cons_zero, List.set_cons_succ])
      refine takeH (i := 24) (v := ?_) rfl (by kernel_rfl) (fun _ _ _ h => h) (Or.inl ⟨by kernel_rfl, ?_⟩) (by assumption) ?_; rotate_left; (focus (intro w hSw; (try dsimp only at hSw); go_simp; (try with_reducible rfl); done)); (try simp only [Act.put, List.getElem_toArray, List.getElem_cons_succ, List.getElem_cons_zero, List.setIfInBounds_toArray, List.set_cons_zero, List.set_cons_succ])
      refine takeH (i := 26) (v := ?_) rfl (by kernel_rfl) (fun _ _ _ h => h) (Or.inl ⟨by kernel_rfl, ?_⟩) (by assumption) ?_; rotate_left; (focus (intro w hSw; (try dsimp only at hSw); go_simp; (try with_reducible rfl); done)); (try simp only [Act.put, List.getElem_toArray, List.getElem_cons_succ, List.getElem_cons_zero, List.setIfInBounds_toArray, List.set_cons_zero, List.set_cons_succ])
      refine takeH (i := 27) (v := ?_) rfl (by kernel_rfl) (fun _ _ _ h => h) (Or.inl ⟨by kernel_rfl, ?_⟩) (by assumption) ?_; rotate_left; (focus (intro w hSw; (try dsimp only at hSw); go_simp; (try with_reducible rfl); done)); (try simp only [Act.put, List.getElem_toArray, List.getElem_cons_succ, List.getElem_cons_zero, List.setIfInBounds_toArray, List.set_cons_zero, List.set_cons_succ])
      clear hHeld
      refine readyS (rs := [25]) (by kernel_rfl) (by simp) ?_
      refine ReadyS.consH rfl (fun K hK => ?_) ReadyS.nil
      (try simp only [List.getElem_toArray, List.getElem_cons_succ, List.getElem_cons_zero])
      go_simp
      (with_reducible refine (HSame.out Wb (HP.out.below (below_up HB9.out HDb.out)) (HPm.out.below (below_up HB9.out HDb.out))).mono ?_); rintro e Wc ⟨rfl, hb⟩
      have HDc := Lib.hid (below_up HDb.out hb)
      clear hb
      refine hK.out _ _ (HQ.out _ HDc.out) (fun hHeld => ?_)
      clear hK K
      (try simp only [Act.put, List.getElem_toArray, List.getElem_cons_succ, List.getElem_cons_zero, List.setIfInBounds_toArray, List.set_cons_zero, List.set_cons_succ])
      clear hHeld
      refine readyS (rs := [28]) (by kernel_rfl) (by simp) ?_
      refine ReadyS.consH rfl (fun K hK => ?_) ReadyS.nil
      (try simp only [List.getElem_toArray, List.getElem_cons_succ, List.getElem_cons_zero])
      go_simp
      (with_reducible refine (HRSame.out Wc (HP.out.below (below_up HB9.out HDc.out)) (HPm.out.below (below_up HB9.out HDc.out))).mono ?_); rintro e Wd ⟨rfl, hb⟩
      have HDd := Lib.hid (below_up HDc.out hb)
      clear hb
      refine hK.out _ _ (HQ.out _ HDd.out) (fun hHeld => ?_)
      clear hK K
      (try simp only [Act.put, List.getElem_toArray, List.getElem_cons_succ, List.getElem_cons_zero, List.setIfInBounds_toArray, List.set_cons_zero, List.set_cons_succ])
      refine takeF (i := 29) (v := ?_) rfl (by kernel_rfl) (fun _ _ _ h => h) (Or.inl ⟨by kernel_rfl, ?_⟩) (by assumption) ?_; rotate_left; (focus (intro w _; go_simp; (try with_reducible rfl); done)); (try simp only [Act.put, List.getElem_toArray, List.getElem_cons_succ, List.getElem_cons_zero, List.setIfInBounds_toArray, List.set_cons_zero, List.set_cons_succ])
      refine takeF (i := 30) (v := ?_) rfl (by kernel_rfl) (fun _ _ _ h => h) (Or.inl ⟨by kernel_rfl, ?_⟩) (by assumption) ?_; rotate_left; (focus (intro w _; go_simp; (try with_reducible rfl); done)); (try simp only [Act.put, List.getElem_toArray, List.getElem_cons_succ, List.getElem_cons_zero, List.setIfInBounds_toArray, List.set_cons_zero, List.set_cons_succ])
      refine takeF (i := 31) (v := ?_) rfl (by kernel_rfl) (fun _ _ _ h => h) (Or.inl ⟨by kernel_rfl, ?_⟩) (by assumption) ?_; rotate_left; (focus (intro w _; go_simp; (try with_reducible rfl); done)); (try simp only [Act.put, List.getElem_toArray, List.getElem_cons_succ, List.getElem_cons_zero, List.setIfInBounds_toArray, List.set_cons_zero, List.set_cons_succ])
      clear hHeld
      refine doneS (by kernel_rfl) ?_ _
      go_wp2
      go_ret
      exact ⟨rfl, below_up HB9.out HDd.out⟩
    · exact absurd ((reads_ref _ _).1 HRd2.out) (hno2 _)
  · have hbx := below_alloc1 wa (.cells (ncells ⟨false, .slice none 0 0, [], 0, fun _ => 0, fun _ => 0⟩) 49)
    have HYa := Lib.hid (alloc_at (w := wa) (.cells (ncells ⟨false, .slice none 0 0, [], 0, fun _ => 0, fun _ => 0⟩) 49) rfl)
    have HX8 := Lib.hid (block_up HX7.out hbx); have HM8 := Lib.hid (block_up HM7.out hbx); have HB8 := Lib.hid (below_up HB7.out hbx)
    clear hbx HX7 HM7 HB7
    go_upto_region 13 with (fail)
    generalize wa.heap.size = gy at *
    generalize World.alloc wa _ = wb at *
    have HRr2 := Lib.hid (HRr.out wb HB8.out)
    go_wp2_with fail
    (with_reducible refine HRr2.out.mono ?_); rintro e wz ⟨hE2, hbz⟩
    rcases hE2 with ⟨d2, v2, hr2, rfl, ho2⟩ | ⟨hno2, rfl⟩
    · exact absurd ((reads_ref b d2).2 hr2) (hno _)
    · have HX9a := Lib.hid (block_up HX8.out hbz); have HM9a := Lib.hid (block_up HM8.out hbz); have HB9a := Lib.hid (below_up HB8.out hbz)
      have HYb := Lib.hid (block_up HYa.out hbz)
      clear hbz HX8 HM8 HB8 HYa
      have hbx := below_alloc1 wz (.cells (ncells ⟨false, .slice none 0 0, [], 0, fun _ => 0, fun _ => 0⟩) 49)
      have HZ9 := Lib.hid (alloc_at (w := wz) (.cells (ncells ⟨false, .slice none 0 0, [], 0, fun _ => 0, fun _ => 0⟩) 49) rfl)
      have HX9 := Lib.hid (block_up HX9a.out hbx); have HM9 := Lib.hid (block_up HM9a.out hbx); have HB9 := Lib.hid (below_up HB9a.out hbx)
      have HY9 := Lib.hid (block_up HYb.out hbx)
      clear hbx HX9a HM9a HB9a HYb
      have hsm := fun W (h : PRd W (.slice none 0 0) []) (h1 : PRd W (.slice none 0 0) []) => rsame_ok ⟨false, .slice none 0 0, [], 0, fun _ => 0, fun _ => 0⟩ ⟨false, .slice none 0 0, [], 0, fun _ => 0, fun _ => 0⟩ W h h1 (by simp) (by simp)
      simp only [sameB_t (a := ⟨false, .slice none 0 0, [], 0, fun _ => 0, fun _ => 0⟩) (b := ⟨false, .slice none 0 0, [], 0, fun _ => 0, fun _ => 0⟩) ⟨rfl, rfl, fun _ _ => rfl, fun _ _ => rfl, rfl⟩] at hsm
      have HSame2 := Lib.hid hsm
      clear hsm
      have HPy : Hid (PRd (wz.alloc (.cells (ncells ⟨false, .slice none 0 0, [], 0, fun _ => 0, fun _ => 0⟩) 49)) (.slice none 0 0) []) := Lib.hid (srd_nil _ _ _)
      have HPz := HPy
      go_upto_region 14 with (fail)
      generalize wz.heap.size = gz at *
      generalize World.alloc wz _ = w9 at *
      have HQ : Hid (∀ W', Below w9.heap.size w9 W' → (W'.cell? ⟨gy, 0, none⟩ = some (.bool false) ∧ W'.cell? ⟨gy, 1, none⟩ = some (.slice none 0 0) ∧ W'.cell? ⟨gy, 2, none⟩ = some (.int .i64 0) ∧ W'.cell? ⟨gy, 3, none⟩ = some (.int .i64 0) ∧ W'.cell? ⟨gy, 4, none⟩ = some (.int .i64 0) ∧ W'.cell? ⟨gy, 5, none⟩ = some (.int .i64 0) ∧ W'.cell? ⟨gy, 6, none⟩ = some (.int .i64 0) ∧ W'.cell? ⟨gy, 7, none⟩ = some (.int .i64 0) ∧ W'.cell? ⟨gy, 8, none⟩ = some (.int .i64 0) ∧ W'.cell? ⟨gy, 9, none⟩ = some (.int .i64 0) ∧ W'.cell? ⟨gy, 10, none⟩ = some (.int .i64 0)) ∧ (W'.cell? ⟨gz, 0, none⟩ = some (.bool false) ∧ W'.cell? ⟨gz, 1, none⟩ = some (.slice none 0 0) ∧ W'.cell? ⟨gz, 2, none⟩ = some (.int .i64 0) ∧ W'.cell? ⟨gz, 3, none⟩ = some (.int .i64 0) ∧ W'.cell? ⟨gz, 4, none⟩ = some (.int .i64 0) ∧ W'.cell? ⟨gz, 5, none⟩ = some (.int .i64 0) ∧ W'.cell? ⟨gz, 6, none⟩ = some (.int .i64 0) ∧ W'.cell? ⟨gz, 7, none⟩ = some (.int .i64 0) ∧ W'.cell? ⟨gz, 8, none⟩ = some (.int .i64 0) ∧ W'.cell? ⟨gz, 9, none⟩ = some (.int .i64 0) ∧ W'.cell? ⟨gz, 10, none⟩ = some (.int .i64 0)) ∧ (W'.cell? ⟨w.heap.size, 0, none⟩ = some (.bool lf) ∧ W'.cell? ⟨w.heap.size, 1, none⟩ = some (.slice A0 l.length c') ∧ W'.cell? ⟨w.heap.size, 2, none⟩ = some (.int .i64 next) ∧ W'.cell? ⟨w.heap.size, 3, none⟩ = some (.int .i64 (ks 0)) ∧ W'.cell? ⟨w.heap.size, 4, none⟩ = some (.int .i64 (ks 1)) ∧ W'.cell? ⟨w.heap.size, 5, none⟩ = some (.int .i64 (ks 2)) ∧ W'.cell? ⟨w.heap.size, 6, none⟩ = some (.int .i64 (ks 3)) ∧ W'.cell? ⟨w.heap.size, 7, none⟩ = some (.int .i64 (cs 0)) ∧ W'.cell? ⟨w.heap.size, 8, none⟩ = some (.int .i64 (cs 1)) ∧ W'.cell? ⟨w.heap.size, 9, none⟩ = some (.int .i64 (cs 2)) ∧ W'.cell? ⟨w.heap.size, 10, none⟩ = some (.int .i64 (cs 3))) ∧ (W'.cell? ⟨(w.heap.size + 1), 0, none⟩ = some (.bool lf1) ∧ W'.cell? ⟨(w.heap.size + 1), 1, none⟩ = some (.slice A1 pts1.length c1) ∧ W'.cell? ⟨(w.heap.size + 1), 2, none⟩ = some (.int .i64 next1) ∧ W'.cell? ⟨(w.heap.size + 1), 3, none⟩ = some (.int .i64 (ks1 0)) ∧ W'.cell? ⟨(w.heap.size + 1), 4, none⟩ = some (.int .i64 (ks1 1)) ∧ W'.cell? ⟨(w.heap.size + 1), 5, none⟩ = some (.int .i64 (ks1 2)) ∧ W'.cell? ⟨(w.heap.size + 1), 6, none⟩ = some (.int .i64 (ks1 3)) ∧ W'.cell? ⟨(w.heap.size + 1), 7, none⟩ = some (.int .i64 (cs1 0)) ∧ W'.cell? ⟨(w.heap.size + 1), 8, none⟩ = some (.int .i64 (cs1 1)) ∧ W'.cell? ⟨(w.heap.size + 1), 9, none⟩ = some (.int .i64 (cs1 2)) ∧ W'.cell? ⟨(w.heap.size + 1), 10, none⟩ = some (.int .i64 (cs1 3)))) := Lib.hid (fun W' hb => ⟨nd_all (n := ⟨false, .slice none 0 0, [], 0, fun _ => 0, fun _ => 0⟩) (block_up HY9.out hb), nd_all (n := ⟨false, .slice none 0 0, [], 0, fun _ => 0, fun _ => 0⟩) (block_up HZ9.out hb), nd_all (n := ⟨lf, .slice A0 l.length c', l, next, ks, cs⟩) (block_up HX9.out hb), nd_all (n := ⟨lf1, .slice A1 pts1.length c1, pts1, next1, ks1, cs1⟩) (block_up HM9.out hb)⟩)
      refine beginS (S := fun W' => (W'.cell? ⟨gy, 0, none⟩ = some (.bool false) ∧ W'.cell? ⟨gy, 1, none⟩ = some (.slice none 0 0) ∧ W'.cell? ⟨gy, 2, none⟩ = some (.int .i64 0) ∧ W'.cell? ⟨gy, 3, none⟩ = some (.int .i64 0) ∧ W'.cell? ⟨gy, 4, none⟩ = some (.int .i64 0) ∧ W'.cell? ⟨gy, 5, none⟩ = some (.int .i64 0) ∧ W'.cell? ⟨gy, 6, none⟩ = some (.int .i64 0) ∧ W'.cell? ⟨gy, 7, none⟩ = some (.int .i64 0) ∧ W'.cell? ⟨gy, 8, none⟩ = some (.int .i64 0) ∧ W'.cell? ⟨gy, 9, none⟩ = some (.int .i64 0) ∧ W'.cell? ⟨gy, 10, none⟩ = some (.int .i64 0)) ∧ (W'.cell? ⟨gz, 0, none⟩ = some (.bool false) ∧ W'.cell? ⟨gz, 1, none⟩ = some (.slice none 0 0) ∧ W'.cell? ⟨gz, 2, none⟩ = some (.int .i64 0) ∧ W'.cell? ⟨gz, 3, none⟩ = some (.int .i64 0) ∧ W'.cell? ⟨gz, 4, none⟩ = some (.int .i64 0) ∧ W'.cell? ⟨gz, 5, none⟩ = some (.int .i64 0) ∧ W'.cell? ⟨gz, 6, none⟩ = some (.int .i64 0) ∧ W'.cell? ⟨gz, 7, none⟩ = some (.int .i64 0) ∧ W'.cell? ⟨gz, 8, none⟩ = some (.int .i64 0) ∧ W'.cell? ⟨gz, 9, none⟩ = some (.int .i64 0) ∧ W'.cell? ⟨gz, 10, none⟩ = some (.int .i64 0)) ∧ (W'.cell? ⟨w.heap.size, 0, none⟩ = some (.bool lf) ∧ W'.cell? ⟨w.heap.size, 1, none⟩ = some (.slice A0 l.length c') ∧ W'.cell? ⟨w.heap.size, 2, none⟩ = some (.int .i64 next) ∧ W'.cell? ⟨w.heap.size, 3, none⟩ = some (.int .i64 (ks 0)) ∧ W'.cell? ⟨w.heap.size, 4, none⟩ = some (.int .i64 (ks 1)) ∧ W'.cell? ⟨w.heap.size, 5, none⟩ = some (.int .i64 (ks 2)) ∧ W'.cell? ⟨w.heap.size, 6, none⟩ = some (.int .i64 (ks 3)) ∧ W'.cell? ⟨w.heap.size, 7, none⟩ = some (.int .i64 (cs 0)) ∧ W'.cell? ⟨w.heap.size, 8, none⟩ = some (.int .i64 (cs 1)) ∧ W'.cell? ⟨w.heap.size, 9, none⟩ = some (.int .i64 (cs 2)) ∧ W'.cell? ⟨w.heap.size, 10, none⟩ = some (.int .i64 (cs 3))) ∧ (W'.cell? ⟨(w.heap.size + 1), 0, none⟩ = some (.bool lf1) ∧ W'.cell? ⟨(w.heap.size + 1), 1, none⟩ = some (.slice A1 pts1.length c1) ∧ W'.cell? ⟨(w.heap.size + 1), 2, none⟩ = some (.int .i64 next1) ∧ W'.cell? ⟨(w.heap.size + 1), 3, none⟩ = some (.int .i64 (ks1 0)) ∧ W'.cell? ⟨(w.heap.size + 1), 4, none⟩ = some (.int .i64 (ks1 1)) ∧ W'.cell? ⟨(w.heap.size + 1), 5, none⟩ = some (.int .i64 (ks1 2)) ∧ W'.cell? ⟨(w.heap.size + 1), 6, none⟩ = some (.int .i64 (ks1 3)) ∧ W'.cell? ⟨(w.heap.size + 1), 7, none⟩ = some (.int .i64 (cs1 0)) ∧ W'.cell? ⟨(w.heap.size + 1), 8, none⟩ = some (.int .i64 (cs1 1)) ∧ W'.cell? ⟨(w.heap.size + 1), 9, none⟩ = some (.int .i64 (cs1 2)) ∧ W'.cell? ⟨(w.heap.size + 1), 10, none⟩ = some (.int .i64 (cs1 3)))) [] (by kernel_rfl) (HQ.out _ below_drew1) (fun hHeld0 => ?_)
      have HD := Lib.hid (below_drew1 (w := w9))
      generalize (World.drew w9) = W0 at *
      refine takeH (i := 0) (v := ?_) rfl (by kernel_rfl) (fun _ _ _ h => h) (Or.inl ⟨by kernel_rfl, ?_⟩) (by assumption) ?_; rotate_left; (focus (intro w hSw; (try dsimp only at hSw); go_simp; (try with_reducible rfl); done)); (try simp only [Act.put, List.getElem_toArray, List.getElem_cons_succ, List.getElem_cons_zero, List.setIfInBounds_toArray, List.set_cons_zero, List.set_cons_succ])
      refine takeH (i := 1) (v := ?_) rfl (by kernel_rfl) (fun _ _ _ h => h) (Or.inl ⟨by kernel_rfl, ?_⟩) (by assumption) ?_; rotate_left; (focus (intro w hSw; (try dsimp only at hSw); go_simp; (try with_reducible rfl); done)); (try simp only [Act.put, List.getElem_toArray, List.getElem_cons_succ, List.getElem_cons_zero, List.setIfInBounds_toArray, List.set_cons_zero, List.set_cons_succ])
      clear hHeld0
      refine readyS (rs := [2]) (by kernel_rfl) (by simp) ?_
      refine ReadyS.consH rfl (fun K hK => ?_) ReadyS.nil
      (try simp only [List.getElem_toArray, List.getElem_cons_succ, List.getElem_cons_zero])
      go_simp
      (with_reducible refine (HSame2.out W0 (HPy.out.below HD.out) (HPz.out.below HD.out)).mono ?_); rintro e Wa ⟨rfl, hb⟩
      have HDa := Lib.hid (below_up HD.out hb)
      clear hb
      refine hK.out _ _ (HQ.out _ HDa.out) (fun hHeld => ?_)
      clear hK K
      (try simp only [Act.put, List.getElem_toArray, List.getElem_cons_succ, List.getElem_cons_zero, List.setIfInBounds_toArray, List.set_cons_zero, List.set_cons_succ])
      refine takeF (i := 3) (v := ?_) rfl (by kernel_rfl) (fun _ _ _ h => h) (Or.inl ⟨by kernel_rfl, ?_⟩) (by assumption) ?_; rotate_left; (focus (intro w _; go_simp; (try with_reducible rfl); done)); (try simp only [Act.put, List.getElem_toArray, List.getElem_cons_succ, List.getElem_cons_zero, List.setIfInBounds_toArray, List.set_cons_zero, List.set_cons_succ])
      refine takeF (i := 4) (v := ?_) rfl (by kernel_rfl) (fun _ _ _ h => h) (Or.inl ⟨by kernel_rfl, ?_⟩) (by assumption) ?_; rotate_left; (focus (intro w _; go_simp; (try with_reducible rfl); done)); (try simp only [Act.put, List.getElem_toArray, List.getElem_cons_succ, List.getElem_cons_zero, List.setIfInBounds_toArray, List.set_cons_zero, List.set_cons_succ])
      refine takeF (i := 5) (v := ?_) rfl (by kernel_rfl) (fun _ _ _ h => h) (Or.inl ⟨by kernel_rfl, ?_⟩) (by assumption) ?_; rotate_left; (focus (intro w _; go_simp; (try with_reducible rfl); done)); (try simp only [Act.put, List.getElem_toArray, List.getElem_cons_succ, List.getElem_cons_zero, List.setIfInBounds_toArray, List.set_cons_zero, List.set_cons_succ])
      refine takeF (i := 6) (v := ?_) rfl (by kernel_rfl) (fun _ _ _ h => h) (Or.inl ⟨by kernel_rfl, ?_⟩) (by assumption) ?_; rotate_left; (focus (intro w _; go_simp; (try with_reducible rfl); done)); (try simp only [Act.put, List.getElem_toArray, List.getElem_cons_succ, List.getElem_cons_zero, List.setIfInBounds_toArray, List.set_cons_zero, List.set_cons_succ])
      refine takeF (i := 7) (v := ?_) rfl (by kernel_rfl) (fun _ _ _ h => h) (Or.inl ⟨by kernel_rfl, ?_⟩) (by assumption) ?_; rotate_left; (focus (intro w _; go_simp; (try with_reducible rfl); done)); (try simp only [Act.put, List.getElem_toArray, List.getElem_cons_succ, List.getElem_cons_zero, List.setIfInBounds_toArray, List.set_cons_zero, List.set_cons_succ])
      refine takeF (i := 8) (v := ?_) rfl (by kernel_rfl) (fun _ _ _ h => h) (Or.inl ⟨by kernel_rfl, ?_⟩) (by assumption) ?_; rotate_left; (focus (intro w _; go_simp; (try with_reducible rfl); done)); (try simp only [Act.put, List.getElem_toArray, List.getElem_cons_succ, List.getElem_cons_zero, List.setIfInBounds_toArray, List.set_cons_zero, List.set_cons_succ])
      refine takeF (i := 9) (v := ?_) rfl (by kernel_rfl) (fun _ _ _ h => h) (Or.inl ⟨by kernel_rfl, ?_⟩) (by assumption) ?_; rotate_left; (focus (intro w _; go_simp; (try with_reducible rfl); done)); (try simp only [Act.put, List.getElem_toArray, List.getElem_cons_succ, List.getElem_cons_zero, List.setIfInBounds_toArray, List.set_cons_zero, List.set_cons_succ])
      refine takeF (i := 10) (v := ?_) rfl (by kernel_rfl) (fun _ _ _ h => h) (Or.inl ⟨by kernel_rfl, ?_⟩) (by assumption) ?_; rotate_left; (focus (intro w _; go_simp; (try with_reducible rfl); done)); (try simp only [Act.put, List.getElem_toArray, List.getElem_cons_succ, List.getElem_cons_zero, List.setIfInBounds_toArray, List.set_cons_zero, List.set_cons_succ])
      refine takeF (i := 11) (v := ?_) rfl (by kernel_rfl) (fun _ _ _ h => h) (Or.inl ⟨by kernel_rfl, ?_⟩) (by assumption) ?_; rotate_left; (focus (intro w _; go_simp; (try with_reducible rfl); done)); (try simp only [Act.put, List.getElem_toArray, List.getElem_cons_succ, List.getElem_cons_zero, List.setIfInBounds_toArray, List.set_cons_zero, List.set_cons_succ])
      refine takeF (i := 12) (v := ?_) rfl (by kernel_rfl) (fun _ _ _ h => h) (Or.inl ⟨by kernel_rfl, ?_⟩) (by assumption) ?_; rotate_left; (focus (intro w _; go_simp; (try with_reducible rfl); done)); (try simp only [Act.put, List.getElem_toArray, List.getElem_cons_succ, List.getElem_cons_zero, List.setIfInBounds_toArray, List.set_cons_zero, List.set_cons_succ])
      refine takeF (i := 13) (v := ?_) rfl (by kernel_rfl) (fun _ _ _ h => h) (Or.inl ⟨by kernel_rfl, ?_⟩) (by assumption) ?_; rotate_left; (focus (intro w _; go_simp; (try with_reducible rfl); done)); (try simp only [Act.put, List.getElem_toArray, List.getElem_cons_succ, List.getElem_cons_zero, List.setIfInBounds_toArray, List.set_cons_zero, List.set_cons_succ])
      refine takeF (i := 14) (v := ?_) rfl (by kernel_rfl) (fun _ _ _ h => h) (Or.inl ⟨by kernel_rfl, ?_⟩) (by assumption) ?_; rotate_left; (focus (intro w _; go_simp; (try with_reducible rfl); done)); (try simp only [Act.put, List.getElem_toArray, List.getElem_cons_succ, List.getElem_cons_zero, List.setIfInBounds_toArray, List.set_cons_zero, List.set_cons_succ])
      refine takeF (i := 15) (v := ?_) rfl (by kernel_rfl) (fun _ _ _ h => h) (Or.inl ⟨by kernel_rfl, ?_⟩) (by assumption) ?_; rotate_left; (focus (intro w _; go_simp; (try with_reducible rfl); done)); (try simp only [Act.put, List.getElem_toArray, List.getElem_cons_succ, List.getElem_cons_zero, List.setIfInBounds_toArray, List.set_cons_zero, List.set_cons_succ])
      refine takeF (i := 16) (v := ?_) rfl (by kernel_rfl) (fun _ _ _ h => h) (Or.inl ⟨by kernel_rfl, ?_⟩) (by assumption) ?_; rotate_left; (focus (intro w _; go_simp; (try with_reducible rfl); done)); (try simp only [Act.put, List.getElem_toArray, List.getElem_cons_succ, List.getElem_cons_zero, List.setIfInBounds_toArray, List.set_cons_zero, List.set_cons_succ])
      refine takeH (i := 17) (v := ?_) rfl (by kernel_rfl) (fun _ _ _ h => h) (Or.inl ⟨by kernel_rfl, ?_⟩) (by assumption) ?_; rotate_left; (focus (intro w hSw; (try dsimp only at hSw); go_simp; (try with_reducible rfl); done)); (try simp only [Act.put, List.getElem_toArray, List.getElem_cons_succ, List.getElem_cons_zero, List.setIfInBounds_toArray, List.set_cons_zero, List.set_cons_succ])
      refine takeF (i := 19) (v := ?_) rfl (by kernel_rfl) (fun _ _ _ h => h) (Or.inl ⟨by kernel_rfl, ?_⟩) (by assumption) ?_; rotate_left; (focus (intro w _; go_simp; (try with_reducible rfl); done)); (try simp only [Act.put, List.getElem_toArray, List.getElem_cons_succ, List.getElem_cons_zero, List.setIfInBounds_toArray, List.set_cons_zero, List.set_cons_succ])
      clear hHeld
      refine readyS (rs := [18]) (by kernel_rfl) (by simp) ?_
      refine ReadyS.consH rfl (fun K hK => ?_) ReadyS.nil
      (try simp only [List.getElem_toArray, List.getElem_cons_succ, List.getElem_cons_zero])
      go_simp
      (with_reducible refine (HTot.out Wa (HP.out.below (below_up HB9.out HDa.out))).mono ?_); rintro e Wb ⟨rfl, hb⟩
      have HDb := Lib.hid (below_up HDa.out hb)
      clear hb
      refine hK.out _ _ (HQ.out _ HDb.out) (fun hHeld => ?_)
      clear hK K
      (try simp only [Act.put, List.getElem_toArray, List.getElem_cons_succ, List.getElem_cons_zero, List.setIfInBounds_toArray, List.set_cons_zero, List.set_cons_succ])
      refine takeF (i := 20) (v := ?_) rfl (by kernel_rfl) (fun _ _ _ h => h) (Or.inl ⟨by kernel_rfl, ?_⟩) (by assumption) ?_; rotate_left; (focus (intro w _; go_simp; (try with_reducible rfl); done)); (try simp only [Act.put, List.getElem_toArray, List.getElem_cons_succ, List.getElem_cons_zero, List.setIfInBounds_toArray, List.set_cons_zero, List.set_cons_succ])
      refine takeF (i := 21) (v := ?_) rfl (by kernel_rfl) (fun _ _ _ h => h) (Or.inl ⟨by kernel_rfl, ?_⟩) (by assumption) ?_; rotate_left; (focus (intro w _; go_simp; (try with_reducible rfl); done)); (try simp only [Act.put, List.getElem_toArray, List.getElem_cons_succ, List.getElem_cons_zero, List.setIfInBounds_toArray, List.set_cons_zero, List.set_cons_succ])
      refine takeF (i := 22) (v := ?_) rfl (by kernel_rfl) (fun _ _ _ h => h) (Or.inl ⟨by kernel_rfl, ?_⟩) (by assumption) ?_; rotate_left; (focus (intro w _; go_simp; (try with_reducible rfl); done)); (try simp only [Act.put, List.getElem_toArray, List.getElem_cons_succ, List.getElem_cons_zero, List.setIfInBounds_toArray, List.set_cons_zero, List.set_cons_succ])
      refine takeH (i := 23) (v := ?_) rfl (by kernel_rfl) (fun _ _ _ h => h) (Or.inl ⟨by kernel_rfl, ?_⟩) (by assumption) ?_; rotate_left; (focus (intro w hSw; (try dsimp only at hSw); go_simp; (try with_reducible rfl); done)); (try simp only [Act.put, List.getElem_toArray, List.getElem_cons_succ, List.getElem_cons_zero, List.setIfInBounds_toArray, List.set_cons_zero, List.set_cons_succ])
      refine takeH (i := 24) (v := ?_) rfl (by kernel_rfl) (fun _ _ _ h => h) (Or.inl ⟨by kernel_rfl, ?_⟩) (by assumption) ?_; rotate_left; (focus (intro w hSw; (try dsimp only at hSw); go_simp; (try with_reducible rfl); done)); (try simp only [Act.put, List.getElem_toArray, List.getElem_cons_succ, List.getElem_cons_zero, List.setIfInBounds_toArray, List.set_cons_zero, List.set_cons_succ])
      refine takeH (i := 26) (v := ?_) rfl (by kernel_rfl) (fun _ _ _ h => h) (Or.inl ⟨by kernel_rfl, ?_⟩) (by assumption) ?_; rotate_left; (focus (intro w hSw; (try dsimp only at hSw); go_simp; (try with_reducible rfl); done)); (try simp only [Act.put, List.getElem_toArray, List.getElem_cons_succ, List.getElem_cons_zero, List.setIfInBounds_toArray, List.set_cons_zero, List.set_cons_succ])
      refine takeH (i := 27) (v := ?_) rfl (by kernel_rfl) (fun _ _ _ h => h) (Or.inl ⟨by kernel_rfl, ?_⟩) (by assumption) ?_; rotate_left; (focus (intro w hSw; (try dsimp only at hSw); go_simp; (try with_reducible rfl); done)); (try simp only [Act.put, List.getElem_toArray, List.getElem_cons_succ, List.getElem_cons_zero, List.setIfInBounds_toArray, List.set_cons_zero, List.set_cons_succ])
      clear hHeld
      refine readyS (rs := [25]) (by kernel_rfl) (by simp) ?_
      refine ReadyS.consH rfl (fun K hK => ?_) ReadyS.nil
      (try simp only [List.getElem_toArray, List.getElem_cons_succ, List.getElem_cons_zero])
      go_simp
      (with_reducible refine (HSame.out Wb (HP.out.below (below_up HB9.out HDb.out)) (HPm.out.below (below_up HB9.out HDb.out))).mono ?_); rintro e Wc ⟨rfl, hb⟩
      have HDc := Lib.hid (below_up HDb.out hb)
      clear hb
      refine hK.out _ _ (HQ.out _ HDc.out) (fun hHeld => ?_)
      clear hK K
      (try simp only [Act.put, List.getElem_toArray, List.getElem_cons_succ, List.getElem_cons_zero, List.setIfInBounds_toArray, List.set_cons_zero, List.set_cons_succ])
      clear hHeld
      refine readyS (rs := [28]) (by kernel_rfl) (by simp) ?_
      refine ReadyS.consH rfl (fun K hK => ?_) ReadyS.nil
      (try simp only [List.getElem_toArray, List.getElem_cons_succ, List.getElem_cons_zero])
      go_simp
      (with_reducible refine (HRSame.out Wc (HP.out.below (below_up HB9.out HDc.out)) (HPm.out.below (below_up HB9.out HDc.out))).mono ?_); rintro e Wd ⟨rfl, hb⟩
      have HDd := Lib.hid (below_up HDc.out hb)
      clear hb
      refine hK.out _ _ (HQ.out _ HDd.out) (fun hHeld => ?_)
      clear hK K
      (try simp only [Act.put, List.getElem_toArray, List.getElem_cons_succ, List.getElem_cons_zero, List.setIfInBounds_toArray, List.set_cons_zero, List.set_cons_succ])
      refine takeF (i := 29) (v := ?_) rfl (by kernel_rfl) (fun _ _ _ h => h) (Or.inl ⟨by kernel_rfl, ?_⟩) (by assumption) ?_; rotate_left; (focus (intro w _; go_simp; (try with_reducible rfl); done)); (try simp only [Act.put, List.getElem_toArray, List.getElem_cons_succ, List.getElem_cons_zero, List.setIfInBounds_toArray, List.set_cons_zero, List.set_cons_succ])
      refine takeF (i := 30) (v := ?_) rfl (by kernel_rfl) (fun _ _ _ h => h) (Or.inl ⟨by kernel_rfl, ?_⟩) (by assumption) ?_; rotate_left; (focus (intro w _; go_simp; (try with_reducible rfl); done)); (try simp only [Act.put, List.getElem_toArray, List.getElem_cons_succ, List.getElem_cons_zero, List.setIfInBounds_toArray, List.set_cons_zero, List.set_cons_succ])
      refine takeF (i := 31) (v := ?_) rfl (by kernel_rfl) (fun _ _ _ h => h) (Or.inl ⟨by kernel_rfl, ?_⟩) (by assumption) ?_; rotate_left; (focus (intro w _; go_simp; (try with_reducible rfl); done)); (try simp only [Act.put, List.getElem_toArray, List.getElem_cons_succ, List.getElem_cons_zero, List.setIfInBounds_toArray, List.set_cons_zero, List.set_cons_succ])
      clear hHeld
      refine doneS (by kernel_rfl) ?_ _
      go_wp2
      go_ret
      exact ⟨rfl, below_up HB9.out HDd.out⟩
end Go.Proofs.Ythpnlgdcijmocaa.Nd
