/- The walks over node.points, node.quarters, node.may, node.Check. -/
import Derived.Test.YtjhhknkhgilecaaNd0
namespace Go.Proofs.Ytjhhknkhgilecaa.Nd
open Go.RowKit Lt Pt Rg
set_option linter.unusedVariables false
set_option linter.unusedSimpArgs false
set_option maxHeartbeats 4000000 in
set_option maxRecDepth 100000 in
theorem points_ok (v : Value) (l : List PtS) (w : World) (h : PRd w v l) (hl : l.length ≤ 140737488355328) : Calls Try.prog 149 #[v] w fun e w' => e = .returned (.bool (ptsB l)) ∧ Below w.heap.size w w' := by
  have HV := Lib.hid h
  obtain ⟨A, c, rfl, _, _⟩ := h
  obtain ⟨R, hR⟩ : ∃ r, ptsB l = r := ⟨_, rfl⟩
  have HF : Hid (¬ PtsMay l → R = false) := Lib.hid (fun h => by rw [← hR]; exact ptsB_f h)
  have HT : Hid (PtsTo l l.length → R = decide (l.length ≤ 4)) := Lib.hid (fun h => by
    rw [← hR]
    by_cases h4 : l.length ≤ 4
    · rw [decide_eq_true h4]; exact (ptsB_iff l).2 ⟨h, h4⟩
    · rw [decide_eq_false h4]; exact ptsB_f (fun h => h4 h.2))
  rw [hR]
  clear hR
  go_enter Try.func149, Try.ntmps149
  go_wp2_with fail
  go_loopw [7] (fun vj W => ∃ j : Nat, vj = .int .i64 j ∧ j ≤ l.length ∧ PtsTo l j ∧ Below w.heap.size w W) (fun vj _ => l.length - (intOf vj).toNat)
  case atStart => exact ⟨0, rfl, Nat.zero_le _, ptsTo_zero l, Below.refl _ _⟩
  case round =>
  obtain ⟨j, rfl, hj, hP, hB⟩ := hrel
  have HP := Lib.hid hP; have HB := Lib.hid hB
  clear hP hB
  by_cases hjl : j < l.length
  · have dj : decide (j < l.length) = true := decide_eq_true hjl
    have bj : (j : Int) < l.length := by omega
    obtain ⟨g, o, rfl, c0, c1, c2, c3⟩ := pt_at (HV.out.below HB.out) hjl
    obtain ⟨p, hp⟩ : ∃ p, l[j] = p := ⟨_, rfl⟩
    rw [hp] at c0 c1 c2 c3
    have HPe := Lib.hid hp
    clear hp
    have q1 := alloc_at (w := wr) (.cells #[.int .i64 p.id, .int .u32 (p.x : Nat), .int .u32 (p.y : Nat), .string p.d] 41) rfl
    have HX := Lib.hid q1
    have HBa := Lib.hid (below_alloc HB.out (.cells #[.int .i64 p.id, .int .u32 (p.x : Nat), .int .u32 (p.y : Nat), .string p.d] 41))
    clear q1
    go_upto_region 4 with (fail)
    clear c0 c1 c2 c3
    generalize hwa : World.alloc wr _ = wa at *
    have hga : Hid (wr.heap.size < wa.heap.size) := Lib.hid (Array.getElem?_eq_some_iff.1 HX.out).1
    clear hwa
    generalize wr.heap.size = ga at *
    by_cases hj0 : 0 < j
    · obtain ⟨m, hm⟩ : ∃ m, j - 1 = m := ⟨_, rfl⟩
      have hml : m < l.length := by omega
      have bm : (m : Int) < l.length := by omega
      have hw : IntKind.i64.wrap ((j : Int) - 1) = (m : Int) := by rw [IntWalk.i64_in _ (by omega)]; omega
      have hmj : Hid (m + 1 = j) := Lib.hid (by omega)
      have d0 : decide (0 < j) = true := decide_eq_true hj0
      clear hm
      have HQ : Hid (∀ W', Below wa.heap.size wa W' → (W'.cell? ⟨ga, 0, none⟩ = some (.int .i64 p.id) ∧ W'.cell? ⟨ga, 1, none⟩ = some (.int .u32 (p.x : Nat)) ∧ W'.cell? ⟨ga, 2, none⟩ = some (.int .u32 (p.y : Nat)) ∧ W'.cell? ⟨ga, 3, none⟩ = some (.string p.d)) ∧ W'.cell? ⟨g, o + m * 4, none⟩ = some (.int .i64 l[m].id) ∧ Below wa.heap.size wa W') := Lib.hid (fun W' hb => by
        obtain ⟨g1, o1, e1, f1, _⟩ := pt_at (HV.out.below (below_up HBa.out hb)) hml
        cases e1
        exact ⟨cells4 (block_up HX.out hb), f1, hb⟩)
      obtain ⟨i2, hi2⟩ : ∃ i2, l[m].id = i2 := ⟨_, rfl⟩
      have HI2 := Lib.hid hi2
      rw [hi2] at HQ
      clear hi2
      refine beginS (S := fun W' => (W'.cell? ⟨ga, 0, none⟩ = some (.int .i64 p.id) ∧ W'.cell? ⟨ga, 1, none⟩ = some (.int .u32 (p.x : Nat)) ∧ W'.cell? ⟨ga, 2, none⟩ = some (.int .u32 (p.y : Nat)) ∧ W'.cell? ⟨ga, 3, none⟩ = some (.string p.d)) ∧ W'.cell? ⟨g, o + m * 4, none⟩ = some (.int .i64 i2) ∧ Below wa.heap.size wa W') [] (by kernel_rfl) (HQ.out _ below_drew1) (fun hHeld0 => ?_)
      have HD := Lib.hid (below_drew1 (w := wa))
      generalize (World.drew wa) = W0 at *
      refine takeH (i := 0) (v := ?_) rfl (by kernel_rfl) (fun _ _ _ h => h) (Or.inl ⟨by kernel_rfl, ?_⟩) (by assumption) ?_; rotate_left; (focus (intro w hSw; (try dsimp only at hSw); go_simp; (try with_reducible rfl); done)); (try simp only [Act.put, List.getElem_toArray, List.getElem_cons_succ, List.getElem_cons_zero, List.setIfInBounds_toArray, List.set_cons_zero, List.set_cons_succ])
      clear hHeld0
      refine readyS (rs := [1]) (by kernel_rfl) (by simp) ?_
      refine ReadyS.consH rfl (fun K hK => ?_) ReadyS.nil
      (try simp only [List.getElem_toArray, List.getElem_cons_succ, List.getElem_cons_zero])
      go_simp
      (with_reducible refine (chkp_ok p _).mono ?_); rintro e W1 ⟨rfl, hb⟩
      have H1 := Lib.hid (below_up HD.out hb); clear hb
      refine hK.out _ _ (HQ.out _ H1.out) (fun hHeld => ?_)
      clear hK K
      (try simp only [Act.put, List.getElem_toArray, List.getElem_cons_succ, List.getElem_cons_zero, List.setIfInBounds_toArray, List.set_cons_zero, List.set_cons_succ])
      obtain ⟨K0, hK0⟩ : ∃ x, p.chk = x := ⟨_, rfl⟩
      rw [hK0]
      by_cases hc : K0 = 0
      · subst hc
        refine takeF (i := 2) (v := ?_) rfl (by kernel_rfl) (fun _ _ _ h => h) (Or.inl ⟨by kernel_rfl, ?_⟩) (by assumption) ?_; rotate_left; (focus (intro w _; go_simp; (try with_reducible rfl); done)); (try simp only [Act.put, List.getElem_toArray, List.getElem_cons_succ, List.getElem_cons_zero, List.setIfInBounds_toArray, List.set_cons_zero, List.set_cons_succ])
        refine takeF (i := 3) (v := ?_) rfl (by kernel_rfl) (fun _ _ _ h => h) (Or.inl ⟨by kernel_rfl, ?_⟩) (by assumption) ?_; rotate_left; (focus (intro w _; go_simp; (try with_reducible rfl); done)); (try simp only [Act.put, List.getElem_toArray, List.getElem_cons_succ, List.getElem_cons_zero, List.setIfInBounds_toArray, List.set_cons_zero, List.set_cons_succ])
        refine takeF (i := 4) (v := ?_) rfl (by kernel_rfl) (fun _ _ _ h => h) (Or.inl ⟨by kernel_rfl, ?_⟩) (by assumption) ?_; rotate_left; (focus (intro w _; go_simp; (try with_reducible rfl); done)); (try simp only [Act.put, List.getElem_toArray, List.getElem_cons_succ, List.getElem_cons_zero, List.setIfInBounds_toArray, List.set_cons_zero, List.set_cons_succ])
        refine takeF (i := 5) (v := ?_) rfl (by kernel_rfl) (fun _ _ _ h => h) (Or.inl ⟨by kernel_rfl, ?_⟩) (by assumption) ?_; rotate_left; (focus (intro w _; go_simp; (try with_reducible rfl); done)); (try simp only [Act.put, List.getElem_toArray, List.getElem_cons_succ, List.getElem_cons_zero, List.setIfInBounds_toArray, List.set_cons_zero, List.set_cons_succ])
        refine takeF (i := 6) (v := ?_) rfl (by kernel_rfl) (fun _ _ _ h => h) (Or.inl ⟨by kernel_rfl, ?_⟩) (by assumption) ?_; rotate_left; (focus (intro w _; go_simp; (try with_reducible rfl); done)); (try simp only [Act.put, List.getElem_toArray, List.getElem_cons_succ, List.getElem_cons_zero, List.setIfInBounds_toArray, List.set_cons_zero, List.set_cons_succ])
        refine takeF (i := 7) (v := ?_) rfl (by kernel_rfl) (fun _ _ _ h => h) (Or.inl ⟨by kernel_rfl, ?_⟩) (by assumption) ?_; rotate_left; (focus (intro w _; go_simp; (try with_reducible rfl); done)); (try simp only [Act.put, List.getElem_toArray, List.getElem_cons_succ, List.getElem_cons_zero, List.setIfInBounds_toArray, List.set_cons_zero, List.set_cons_succ])
        refine takeH (i := 8) (v := ?_) rfl (by kernel_rfl) (fun _ _ _ h => h) (Or.inl ⟨by kernel_rfl, ?_⟩) (by assumption) ?_; rotate_left; (focus (intro w hSw; (try dsimp only at hSw); go_simp; (try with_reducible rfl); done)); (try simp only [Act.put, List.getElem_toArray, List.getElem_cons_succ, List.getElem_cons_zero, List.setIfInBounds_toArray, List.set_cons_zero, List.set_cons_succ])
        refine takeF (i := 9) (v := ?_) rfl (by kernel_rfl) (fun _ _ _ h => h) (Or.inl ⟨by kernel_rfl, ?_⟩) (by assumption) ?_; rotate_left; (focus (intro w _; go_simp; (try with_reducible rfl); done)); (try simp only [Act.put, List.getElem_toArray, List.getElem_cons_succ, List.getElem_cons_zero, List.setIfInBounds_toArray, List.set_cons_zero, List.set_cons_succ])
        refine takeF (i := 10) (v := ?_) rfl (by kernel_rfl) (fun _ _ _ h => h) (Or.inl ⟨by kernel_rfl, ?_⟩) (by assumption) ?_; rotate_left; (focus (intro w _; go_simp; (try with_reducible rfl); done)); (try simp only [Act.put, List.getElem_toArray, List.getElem_cons_succ, List.getElem_cons_zero, List.setIfInBounds_toArray, List.set_cons_zero, List.set_cons_succ])
        refine takeF (i := 11) (v := ?_) rfl (by kernel_rfl) (fun _ _ _ h => h) (Or.inl ⟨by kernel_rfl, ?_⟩) (by assumption) ?_; rotate_left; (focus (intro w _; go_simp; (try with_reducible rfl); done)); (try simp only [Act.put, List.getElem_toArray, List.getElem_cons_succ, List.getElem_cons_zero, List.setIfInBounds_toArray, List.set_cons_zero, List.set_cons_succ])
        refine takeF (i := 12) (v := ?_) rfl (by kernel_rfl) (fun _ _ _ h => h) (Or.inl ⟨by kernel_rfl, ?_⟩) (by assumption) ?_; rotate_left; (focus (intro w _; go_simp; (try with_reducible rfl); done)); (try simp only [Act.put, List.getElem_toArray, List.getElem_cons_succ, List.getElem_cons_zero, List.setIfInBounds_toArray, List.set_cons_zero, List.set_cons_succ])
        refine takeF (i := 13) (v := ?_) rfl (by kernel_rfl) (fun _ _ _ h => h) (Or.inl ⟨by kernel_rfl, ?_⟩) (by assumption) ?_; rotate_left; (focus (intro w _; go_simp; (try with_reducible rfl); done)); (try simp only [Act.put, List.getElem_toArray, List.getElem_cons_succ, List.getElem_cons_zero, List.setIfInBounds_toArray, List.set_cons_zero, List.set_cons_succ])
        refine takeH (i := 14) (v := ?_) rfl (by kernel_rfl) (fun _ _ _ h => h) (Or.inl ⟨by kernel_rfl, ?_⟩) (by assumption) ?_; rotate_left; (focus (intro w hSw; (try dsimp only at hSw); go_simp; (try with_reducible rfl); done)); (try simp only [Act.put, List.getElem_toArray, List.getElem_cons_succ, List.getElem_cons_zero, List.setIfInBounds_toArray, List.set_cons_zero, List.set_cons_succ])
        refine takeF (i := 15) (v := ?_) rfl (by kernel_rfl) (fun _ _ _ h => h) (Or.inl ⟨by kernel_rfl, ?_⟩) (by assumption) ?_; rotate_left; (focus (intro w _; go_simp; (try with_reducible rfl); done)); (try simp only [Act.put, List.getElem_toArray, List.getElem_cons_succ, List.getElem_cons_zero, List.setIfInBounds_toArray, List.set_cons_zero, List.set_cons_succ])
        refine takeF (i := 16) (v := ?_) rfl (by kernel_rfl) (fun _ _ _ h => h) (Or.inl ⟨by kernel_rfl, ?_⟩) (by assumption) ?_; rotate_left; (focus (intro w _; go_simp; (try with_reducible rfl); done)); (try simp only [Act.put, List.getElem_toArray, List.getElem_cons_succ, List.getElem_cons_zero, List.setIfInBounds_toArray, List.set_cons_zero, List.set_cons_succ])
        refine takeF (i := 17) (v := ?_) rfl (by kernel_rfl) (fun _ _ _ h => h) (Or.inl ⟨by kernel_rfl, ?_⟩) (by assumption) ?_; rotate_left; (focus (intro w _; go_simp; (try with_reducible rfl); done)); (try simp only [Act.put, List.getElem_toArray, List.getElem_cons_succ, List.getElem_cons_zero, List.setIfInBounds_toArray, List.set_cons_zero, List.set_cons_succ])
        clear hHeld
        refine doneS (by kernel_rfl) ?_ _
        by_cases hle : p.id ≤ i2
        · have hN := HF.out (pts_ris hjl hml hmj.out (by rw [HPe.out, HI2.out]; omega))
          subst hN
          have dl : decide (p.id ≤ i2) = true := decide_eq_true hle
          go_wp2
          go_ret
          exact ⟨rfl, below_up HBa.out H1.out⟩
        · have hS := Lib.hid (ptsTo_succ HP.out hjl (by rw [HPe.out]; exact hK0) (fun m' hm' e => by
            obtain rfl : m' = m := by have := hmj.out; omega
            rw [HPe.out, HI2.out]; omega))
          have dl : decide (p.id ≤ i2) = false := decide_eq_false hle
          go_wp2
          exact ⟨⟨j + 1, by go_num, by omega, hS.out, below_up HBa.out H1.out⟩, by simp [intOf]; omega⟩
      · have hN := HF.out (pts_chk hjl (by rw [HPe.out, hK0]; exact hc))
        subst hN
        have dn : (K0 != 0) = true := by rw [bne_iff_ne]; exact hc
        refine takeF (i := 2) (v := ?_) rfl (by kernel_rfl) (fun _ _ _ h => h) (Or.inl ⟨by kernel_rfl, ?_⟩) (by assumption) ?_; rotate_left; (focus (intro w _; go_simp; (try with_reducible rfl); done)); (try simp only [Act.put, List.getElem_toArray, List.getElem_cons_succ, List.getElem_cons_zero, List.setIfInBounds_toArray, List.set_cons_zero, List.set_cons_succ])
        refine takeF (i := 3) (v := ?_) rfl (by kernel_rfl) (fun _ _ _ h => h) (Or.inl ⟨by kernel_rfl, ?_⟩) (by assumption) ?_; rotate_left; (focus (intro w _; go_simp; (try with_reducible rfl); done)); (try simp only [Act.put, List.getElem_toArray, List.getElem_cons_succ, List.getElem_cons_zero, List.setIfInBounds_toArray, List.set_cons_zero, List.set_cons_succ])
        refine takeF (i := 4) (v := undef) rfl (by kernel_rfl) (fun _ _ _ h => h) (Or.inr ⟨by kernel_rfl, rfl⟩) (by assumption) ?_; (try simp only [Act.put, List.getElem_toArray, List.getElem_cons_succ, List.getElem_cons_zero, List.setIfInBounds_toArray, List.set_cons_zero, List.set_cons_succ])
        refine takeF (i := 5) (v := undef) rfl (by kernel_rfl) (fun _ _ _ h => h) (Or.inr ⟨by kernel_rfl, rfl⟩) (by assumption) ?_; (try simp only [Act.put, List.getElem_toArray, List.getElem_cons_succ, List.getElem_cons_zero, List.setIfInBounds_toArray, List.set_cons_zero, List.set_cons_succ])
        refine takeF (i := 6) (v := undef) rfl (by kernel_rfl) (fun _ _ _ h => h) (Or.inr ⟨by kernel_rfl, rfl⟩) (by assumption) ?_; (try simp only [Act.put, List.getElem_toArray, List.getElem_cons_succ, List.getElem_cons_zero, List.setIfInBounds_toArray, List.set_cons_zero, List.set_cons_succ])
        refine takeF (i := 7) (v := undef) rfl (by kernel_rfl) (fun _ _ _ h => h) (Or.inr ⟨by kernel_rfl, rfl⟩) (by assumption) ?_; (try simp only [Act.put, List.getElem_toArray, List.getElem_cons_succ, List.getElem_cons_zero, List.setIfInBounds_toArray, List.set_cons_zero, List.set_cons_succ])
        refine takeF (i := 8) (v := undef) rfl (by kernel_rfl) (fun _ _ _ h => h) (Or.inr ⟨by kernel_rfl, rfl⟩) (by assumption) ?_; (try simp only [Act.put, List.getElem_toArray, List.getElem_cons_succ, List.getElem_cons_zero, List.setIfInBounds_toArray, List.set_cons_zero, List.set_cons_succ])
        refine takeF (i := 9) (v := undef) rfl (by kernel_rfl) (fun _ _ _ h => h) (Or.inr ⟨by kernel_rfl, rfl⟩) (by assumption) ?_; (try simp only [Act.put, List.getElem_toArray, List.getElem_cons_succ, List.getElem_cons_zero, List.setIfInBounds_toArray, List.set_cons_zero, List.set_cons_succ])
        refine takeF (i := 10) (v := undef) rfl (by kernel_rfl) (fun _ _ _ h => h) (Or.inr ⟨by kernel_rfl, rfl⟩) (by assumption) ?_; (try simp only [Act.put, List.getElem_toArray, List.getElem_cons_succ, List.getElem_cons_zero, List.setIfInBounds_toArray, List.set_cons_zero, List.set_cons_succ])
        refine takeF (i := 11) (v := undef) rfl (by kernel_rfl) (fun _ _ _ h => h) (Or.inr ⟨by kernel_rfl, rfl⟩) (by assumption) ?_; (try simp only [Act.put, List.getElem_toArray, List.getElem_cons_succ, List.getElem_cons_zero, List.setIfInBounds_toArray, List.set_cons_zero, List.set_cons_succ])
        refine takeF (i := 12) (v := undef) rfl (by kernel_rfl) (fun _ _ _ h => h) (Or.inr ⟨by kernel_rfl, rfl⟩) (by assumption) ?_; (try simp only [Act.put, List.getElem_toArray, List.getElem_cons_succ, List.getElem_cons_zero, List.setIfInBounds_toArray, List.set_cons_zero, List.set_cons_succ])
        refine takeF (i := 13) (v := undef) rfl (by kernel_rfl) (fun _ _ _ h => h) (Or.inr ⟨by kernel_rfl, rfl⟩) (by assumption) ?_; (try simp only [Act.put, List.getElem_toArray, List.getElem_cons_succ, List.getElem_cons_zero, List.setIfInBounds_toArray, List.set_cons_zero, List.set_cons_succ])
        refine takeF (i := 14) (v := undef) rfl (by kernel_rfl) (fun _ _ _ h => h) (Or.inr ⟨by kernel_rfl, rfl⟩) (by assumption) ?_; (try simp only [Act.put, List.getElem_toArray, List.getElem_cons_succ, List.getElem_cons_zero, List.setIfInBounds_toArray, List.set_cons_zero, List.set_cons_succ])
        refine takeF (i := 15) (v := undef) rfl (by kernel_rfl) (fun _ _ _ h => h) (Or.inr ⟨by kernel_rfl, rfl⟩) (by assumption) ?_; (try simp only [Act.put, List.getElem_toArray, List.getElem_cons_succ, List.getElem_cons_zero, List.setIfInBounds_toArray, List.set_cons_zero, List.set_cons_succ])
        refine takeF (i := 16) (v := undef) rfl (by kernel_rfl) (fun _ _ _ h => h) (Or.inr ⟨by kernel_rfl, rfl⟩) (by assumption) ?_; (try simp only [Act.put, List.getElem_toArray, List.getElem_cons_succ, List.getElem_cons_zero, List.setIfInBounds_toArray, List.set_cons_zero, List.set_cons_succ])
        refine takeF (i := 17) (v := ?_) rfl (by kernel_rfl) (fun _ _ _ h => h) (Or.inl ⟨by kernel_rfl, ?_⟩) (by assumption) ?_; rotate_left; (focus (intro w _; go_simp; (try with_reducible rfl); done)); (try simp only [Act.put, List.getElem_toArray, List.getElem_cons_succ, List.getElem_cons_zero, List.setIfInBounds_toArray, List.set_cons_zero, List.set_cons_succ])
        clear hHeld
        refine doneS (by kernel_rfl) ?_ _
        go_wp2
        go_ret
        exact ⟨rfl, below_up HBa.out H1.out⟩
    · obtain rfl : j = 0 := by omega
      have HQ : Hid (∀ W', Below wa.heap.size wa W' → (W'.cell? ⟨ga, 0, none⟩ = some (.int .i64 p.id) ∧ W'.cell? ⟨ga, 1, none⟩ = some (.int .u32 (p.x : Nat)) ∧ W'.cell? ⟨ga, 2, none⟩ = some (.int .u32 (p.y : Nat)) ∧ W'.cell? ⟨ga, 3, none⟩ = some (.string p.d)) ∧ Below wa.heap.size wa W') := Lib.hid (fun W' hb => ⟨cells4 (block_up HX.out hb), hb⟩)
      refine beginS (S := fun W' => (W'.cell? ⟨ga, 0, none⟩ = some (.int .i64 p.id) ∧ W'.cell? ⟨ga, 1, none⟩ = some (.int .u32 (p.x : Nat)) ∧ W'.cell? ⟨ga, 2, none⟩ = some (.int .u32 (p.y : Nat)) ∧ W'.cell? ⟨ga, 3, none⟩ = some (.string p.d)) ∧ Below wa.heap.size wa W') [] (by kernel_rfl) (HQ.out _ below_drew1) (fun hHeld0 => ?_)
      have HD := Lib.hid (below_drew1 (w := wa))
      generalize (World.drew wa) = W0 at *
      refine takeH (i := 0) (v := ?_) rfl (by kernel_rfl) (fun _ _ _ h => h) (Or.inl ⟨by kernel_rfl, ?_⟩) (by assumption) ?_; rotate_left; (focus (intro w hSw; (try dsimp only at hSw); go_simp; (try with_reducible rfl); done)); (try simp only [Act.put, List.getElem_toArray, List.getElem_cons_succ, List.getElem_cons_zero, List.setIfInBounds_toArray, List.set_cons_zero, List.set_cons_succ])
      clear hHeld0
      refine readyS (rs := [1]) (by kernel_rfl) (by simp) ?_
      refine ReadyS.consH rfl (fun K hK => ?_) ReadyS.nil
      (try simp only [List.getElem_toArray, List.getElem_cons_succ, List.getElem_cons_zero])
      go_simp
      (with_reducible refine (chkp_ok p _).mono ?_); rintro e W1 ⟨rfl, hb⟩
      have H1 := Lib.hid (below_up HD.out hb); clear hb
      refine hK.out _ _ (HQ.out _ H1.out) (fun hHeld => ?_)
      clear hK K
      (try simp only [Act.put, List.getElem_toArray, List.getElem_cons_succ, List.getElem_cons_zero, List.setIfInBounds_toArray, List.set_cons_zero, List.set_cons_succ])
      obtain ⟨K0, hK0⟩ : ∃ x, p.chk = x := ⟨_, rfl⟩
      rw [hK0]
      by_cases hc : K0 = 0
      · subst hc
        have hS := Lib.hid (ptsTo_succ HP.out hjl (by rw [HPe.out]; exact hK0) (fun m' hm' e => by omega))
        refine takeF (i := 2) (v := ?_) rfl (by kernel_rfl) (fun _ _ _ h => h) (Or.inl ⟨by kernel_rfl, ?_⟩) (by assumption) ?_; rotate_left; (focus (intro w _; go_simp; (try with_reducible rfl); done)); (try simp only [Act.put, List.getElem_toArray, List.getElem_cons_succ, List.getElem_cons_zero, List.setIfInBounds_toArray, List.set_cons_zero, List.set_cons_succ])
        refine takeF (i := 3) (v := ?_) rfl (by kernel_rfl) (fun _ _ _ h => h) (Or.inl ⟨by kernel_rfl, ?_⟩) (by assumption) ?_; rotate_left; (focus (intro w _; go_simp; (try with_reducible rfl); done)); (try simp only [Act.put, List.getElem_toArray, List.getElem_cons_succ, List.getElem_cons_zero, List.setIfInBounds_toArray, List.set_cons_zero, List.set_cons_succ])
        refine takeF (i := 4) (v := ?_) rfl (by kernel_rfl) (fun _ _ _ h => h) (Or.inl ⟨by kernel_rfl, ?_⟩) (by assumption) ?_; rotate_left; (focus (intro w _; go_simp; (try with_reducible rfl); done)); (try simp only [Act.put, List.getElem_toArray, List.getElem_cons_succ, List.getElem_cons_zero, List.setIfInBounds_toArray, List.set_cons_zero, List.set_cons_succ])
        refine takeF (i := 5) (v := ?_) rfl (by kernel_rfl) (fun _ _ _ h => h) (Or.inl ⟨by kernel_rfl, ?_⟩) (by assumption) ?_; rotate_left; (focus (intro w _; go_simp; (try with_reducible rfl); done)); (try simp only [Act.put, List.getElem_toArray, List.getElem_cons_succ, List.getElem_cons_zero, List.setIfInBounds_toArray, List.set_cons_zero, List.set_cons_succ])
        refine takeF (i := 6) (v := ?_) rfl (by kernel_rfl) (fun _ _ _ h => h) (Or.inl ⟨by kernel_rfl, ?_⟩) (by assumption) ?_; rotate_left; (focus (intro w _; go_simp; (try with_reducible rfl); done)); (try simp only [Act.put, List.getElem_toArray, List.getElem_cons_succ, List.getElem_cons_zero, List.setIfInBounds_toArray, List.set_cons_zero, List.set_cons_succ])
        refine takeF (i := 7) (v := undef) rfl (by kernel_rfl) (fun _ _ _ h => h) (Or.inr ⟨by kernel_rfl, rfl⟩) (by assumption) ?_; (try simp only [Act.put, List.getElem_toArray, List.getElem_cons_succ, List.getElem_cons_zero, List.setIfInBounds_toArray, List.set_cons_zero, List.set_cons_succ])
        refine takeF (i := 8) (v := undef) rfl (by kernel_rfl) (fun _ _ _ h => h) (Or.inr ⟨by kernel_rfl, rfl⟩) (by assumption) ?_; (try simp only [Act.put, List.getElem_toArray, List.getElem_cons_succ, List.getElem_cons_zero, List.setIfInBounds_toArray, List.set_cons_zero, List.set_cons_succ])
        refine takeF (i := 9) (v := undef) rfl (by kernel_rfl) (fun _ _ _ h => h) (Or.inr ⟨by kernel_rfl, rfl⟩) (by assumption) ?_; (try simp only [Act.put, List.getElem_toArray, List.getElem_cons_succ, List.getElem_cons_zero, List.setIfInBounds_toArray, List.set_cons_zero, List.set_cons_succ])
        refine takeF (i := 10) (v := undef) rfl (by kernel_rfl) (fun _ _ _ h => h) (Or.inr ⟨by kernel_rfl, rfl⟩) (by assumption) ?_; (try simp only [Act.put, List.getElem_toArray, List.getElem_cons_succ, List.getElem_cons_zero, List.setIfInBounds_toArray, List.set_cons_zero, List.set_cons_succ])
        refine takeF (i := 11) (v := undef) rfl (by kernel_rfl) (fun _ _ _ h => h) (Or.inr ⟨by kernel_rfl, rfl⟩) (by assumption) ?_; (try simp only [Act.put, List.getElem_toArray, List.getElem_cons_succ, List.getElem_cons_zero, List.setIfInBounds_toArray, List.set_cons_zero, List.set_cons_succ])
        refine takeF (i := 12) (v := undef) rfl (by kernel_rfl) (fun _ _ _ h => h) (Or.inr ⟨by kernel_rfl, rfl⟩) (by assumption) ?_; (try simp only [Act.put, List.getElem_toArray, List.getElem_cons_succ, List.getElem_cons_zero, List.setIfInBounds_toArray, List.set_cons_zero, List.set_cons_succ])
        refine takeF (i := 13) (v := undef) rfl (by kernel_rfl) (fun _ _ _ h => h) (Or.inr ⟨by kernel_rfl, rfl⟩) (by assumption) ?_; (try simp only [Act.put, List.getElem_toArray, List.getElem_cons_succ, List.getElem_cons_zero, List.setIfInBounds_toArray, List.set_cons_zero, List.set_cons_succ])
        refine takeF (i := 14) (v := undef) rfl (by kernel_rfl) (fun _ _ _ h => h) (Or.inr ⟨by kernel_rfl, rfl⟩) (by assumption) ?_; (try simp only [Act.put, List.getElem_toArray, List.getElem_cons_succ, List.getElem_cons_zero, List.setIfInBounds_toArray, List.set_cons_zero, List.set_cons_succ])
        refine takeF (i := 15) (v := undef) rfl (by kernel_rfl) (fun _ _ _ h => h) (Or.inr ⟨by kernel_rfl, rfl⟩) (by assumption) ?_; (try simp only [Act.put, List.getElem_toArray, List.getElem_cons_succ, List.getElem_cons_zero, List.setIfInBounds_toArray, List.set_cons_zero, List.set_cons_succ])
        refine takeF (i := 16) (v := ?_) rfl (by kernel_rfl) (fun _ _ _ h => h) (Or.inl ⟨by kernel_rfl, ?_⟩) (by assumption) ?_; rotate_left; (focus (intro w _; go_simp; (try with_reducible rfl); done)); (try simp only [Act.put, List.getElem_toArray, List.getElem_cons_succ, List.getElem_cons_zero, List.setIfInBounds_toArray, List.set_cons_zero, List.set_cons_succ])
        refine takeF (i := 17) (v := ?_) rfl (by kernel_rfl) (fun _ _ _ h => h) (Or.inl ⟨by kernel_rfl, ?_⟩) (by assumption) ?_; rotate_left; (focus (intro w _; go_simp; (try with_reducible rfl); done)); (try simp only [Act.put, List.getElem_toArray, List.getElem_cons_succ, List.getElem_cons_zero, List.setIfInBounds_toArray, List.set_cons_zero, List.set_cons_succ])
        clear hHeld
        refine doneS (by kernel_rfl) ?_ _
        go_wp2
        exact ⟨⟨0 + 1, by go_num, by omega, hS.out, below_up HBa.out H1.out⟩, by simp [intOf]; omega⟩
      · have hN := HF.out (pts_chk hjl (by rw [HPe.out, hK0]; exact hc))
        subst hN
        have dn : (K0 != 0) = true := by rw [bne_iff_ne]; exact hc
        refine takeF (i := 2) (v := ?_) rfl (by kernel_rfl) (fun _ _ _ h => h) (Or.inl ⟨by kernel_rfl, ?_⟩) (by assumption) ?_; rotate_left; (focus (intro w _; go_simp; (try with_reducible rfl); done)); (try simp only [Act.put, List.getElem_toArray, List.getElem_cons_succ, List.getElem_cons_zero, List.setIfInBounds_toArray, List.set_cons_zero, List.set_cons_succ])
        refine takeF (i := 3) (v := ?_) rfl (by kernel_rfl) (fun _ _ _ h => h) (Or.inl ⟨by kernel_rfl, ?_⟩) (by assumption) ?_; rotate_left; (focus (intro w _; go_simp; (try with_reducible rfl); done)); (try simp only [Act.put, List.getElem_toArray, List.getElem_cons_succ, List.getElem_cons_zero, List.setIfInBounds_toArray, List.set_cons_zero, List.set_cons_succ])
        refine takeF (i := 4) (v := undef) rfl (by kernel_rfl) (fun _ _ _ h => h) (Or.inr ⟨by kernel_rfl, rfl⟩) (by assumption) ?_; (try simp only [Act.put, List.getElem_toArray, List.getElem_cons_succ, List.getElem_cons_zero, List.setIfInBounds_toArray, List.set_cons_zero, List.set_cons_succ])
        refine takeF (i := 5) (v := undef) rfl (by kernel_rfl) (fun _ _ _ h => h) (Or.inr ⟨by kernel_rfl, rfl⟩) (by assumption) ?_; (try simp only [Act.put, List.getElem_toArray, List.getElem_cons_succ, List.getElem_cons_zero, List.setIfInBounds_toArray, List.set_cons_zero, List.set_cons_succ])
        refine takeF (i := 6) (v := undef) rfl (by kernel_rfl) (fun _ _ _ h => h) (Or.inr ⟨by kernel_rfl, rfl⟩) (by assumption) ?_; (try simp only [Act.put, List.getElem_toArray, List.getElem_cons_succ, List.getElem_cons_zero, List.setIfInBounds_toArray, List.set_cons_zero, List.set_cons_succ])
        refine takeF (i := 7) (v := undef) rfl (by kernel_rfl) (fun _ _ _ h => h) (Or.inr ⟨by kernel_rfl, rfl⟩) (by assumption) ?_; (try simp only [Act.put, List.getElem_toArray, List.getElem_cons_succ, List.getElem_cons_zero, List.setIfInBounds_toArray, List.set_cons_zero, List.set_cons_succ])
        refine takeF (i := 8) (v := undef) rfl (by kernel_rfl) (fun _ _ _ h => h) (Or.inr ⟨by kernel_rfl, rfl⟩) (by assumption) ?_; (try simp only [Act.put, List.getElem_toArray, List.getElem_cons_succ, List.getElem_cons_zero, List.setIfInBounds_toArray, List.set_cons_zero, List.set_cons_succ])
        refine takeF (i := 9) (v := undef) rfl (by kernel_rfl) (fun _ _ _ h => h) (Or.inr ⟨by kernel_rfl, rfl⟩) (by assumption) ?_; (try simp only [Act.put, List.getElem_toArray, List.getElem_cons_succ, List.getElem_cons_zero, List.setIfInBounds_toArray, List.set_cons_zero, List.set_cons_succ])
        refine takeF (i := 10) (v := undef) rfl (by kernel_rfl) (fun _ _ _ h => h) (Or.inr ⟨by kernel_rfl, rfl⟩) (by assumption) ?_; (try simp only [Act.put, List.getElem_toArray, List.getElem_cons_succ, List.getElem_cons_zero, List.setIfInBounds_toArray, List.set_cons_zero, List.set_cons_succ])
        refine takeF (i := 11) (v := undef) rfl (by kernel_rfl) (fun _ _ _ h => h) (Or.inr ⟨by kernel_rfl, rfl⟩) (by assumption) ?_; (try simp only [Act.put, List.getElem_toArray, List.getElem_cons_succ, List.getElem_cons_zero, List.setIfInBounds_toArray, List.set_cons_zero, List.set_cons_succ])
        refine takeF (i := 12) (v := undef) rfl (by kernel_rfl) (fun _ _ _ h => h) (Or.inr ⟨by kernel_rfl, rfl⟩) (by assumption) ?_; (try simp only [Act.put, List.getElem_toArray, List.getElem_cons_succ, List.getElem_cons_zero, List.setIfInBounds_toArray, List.set_cons_zero, List.set_cons_succ])
        refine takeF (i := 13) (v := undef) rfl (by kernel_rfl) (fun _ _ _ h => h) (Or.inr ⟨by kernel_rfl, rfl⟩) (by assumption) ?_; (try simp only [Act.put, List.getElem_toArray, List.getElem_cons_succ, List.getElem_cons_zero, List.setIfInBounds_toArray, List.set_cons_zero, List.set_cons_succ])
        refine takeF (i := 14) (v := undef) rfl (by kernel_rfl) (fun _ _ _ h => h) (Or.inr ⟨by kernel_rfl, rfl⟩) (by assumption) ?_; (try simp only [Act.put, List.getElem_toArray, List.getElem_cons_succ, List.getElem_cons_zero, List.setIfInBounds_toArray, List.set_cons_zero, List.set_cons_succ])
        refine takeF (i := 15) (v := undef) rfl (by kernel_rfl) (fun _ _ _ h => h) (Or.inr ⟨by kernel_rfl, rfl⟩) (by assumption) ?_; (try simp only [Act.put, List.getElem_toArray, List.getElem_cons_succ, List.getElem_cons_zero, List.setIfInBounds_toArray, List.set_cons_zero, List.set_cons_succ])
        refine takeF (i := 16) (v := undef) rfl (by kernel_rfl) (fun _ _ _ h => h) (Or.inr ⟨by kernel_rfl, rfl⟩) (by assumption) ?_; (try simp only [Act.put, List.getElem_toArray, List.getElem_cons_succ, List.getElem_cons_zero, List.setIfInBounds_toArray, List.set_cons_zero, List.set_cons_succ])
        refine takeF (i := 17) (v := ?_) rfl (by kernel_rfl) (fun _ _ _ h => h) (Or.inl ⟨by kernel_rfl, ?_⟩) (by assumption) ?_; rotate_left; (focus (intro w _; go_simp; (try with_reducible rfl); done)); (try simp only [Act.put, List.getElem_toArray, List.getElem_cons_succ, List.getElem_cons_zero, List.setIfInBounds_toArray, List.set_cons_zero, List.set_cons_succ])
        clear hHeld
        refine doneS (by kernel_rfl) ?_ _
        go_wp2
        go_ret
        exact ⟨rfl, below_up HBa.out H1.out⟩
  · obtain rfl : j = l.length := by omega
    have dj : decide (l.length < l.length) = false := decide_eq_false (by omega)
    have hT := HT.out HP.out
    subst hT
    go_wp2
    go_ret
    exact ⟨ret_bool (by first | rfl | (simp; omega)), HB.out⟩
/-- The cells of a node in memory. -/
theorem nd_cells {W : World} {g : Nat} {n : NdS} {f : Nat × Nat} (h : W.heap[g]? = some (.cells #[.bool n.lf, n.v, .int .i64 n.next, .int .i64 (n.ks 0), .int .i64 (n.ks 1), .int .i64 (n.ks 2), .int .i64 (n.ks 3), .int .i64 (n.cs 0), .int .i64 (n.cs 1), .int .i64 (n.cs 2), .int .i64 (n.cs 3)] 159 f)) :
    W.cell? ⟨g, 0, none⟩ = some (.bool n.lf) ∧ W.cell? ⟨g, 1, none⟩ = some n.v ∧ W.cell? ⟨g, 2, none⟩ = some (.int .i64 n.next) ∧ (∀ q, q < 4 → W.cell? ⟨g, 3 + q, none⟩ = some (.int .i64 (n.ks q))) ∧ (∀ q, q < 4 → W.cell? ⟨g, 7 + q, none⟩ = some (.int .i64 (n.cs q))) := by
  refine ⟨by rw [cell_block h]; rfl, by rw [cell_block h]; rfl, by rw [cell_block h]; rfl, fun q hq => ?_, fun q hq => ?_⟩
  · rw [cell_block h]
    rcases (by omega : q = 0 ∨ q = 1 ∨ q = 2 ∨ q = 3) with rfl | rfl | rfl | rfl <;> rfl
  · rw [cell_block h]
    rcases (by omega : q = 0 ∨ q = 1 ∨ q = 2 ∨ q = 3) with rfl | rfl | rfl | rfl <;> rfl
/-- One of four. -/
theorem idx4 (f : Nat → Int) (q : Nat) (hq : q < 4) (w : World) : (Instr.index 157 (.agg #[.int .i64 (f 0), .int .i64 (f 1), .int .i64 (f 2), .int .i64 (f 3)]) (.int .i64 (q : Nat))).run Try.prog w = .ok (.int .i64 (f q)) w :=
  run_index_row Try.underlying157 (by kernel_rfl) (by kernel_rfl) (by kernel_rfl) [.int .i64 (f 0), .int .i64 (f 1), .int .i64 (f 2), .int .i64 (f 3)] .i64 q _ hq (by rcases (by omega : q = 0 ∨ q = 1 ∨ q = 2 ∨ q = 3) with rfl | rfl | rfl | rfl <;> rfl) w
set_option maxHeartbeats 4000000 in
set_option maxRecDepth 100000 in
theorem quarters_ok (n : NdS) (w : World) : Calls Try.prog 150 #[nv n] w fun e w' => e = .returned (.bool (quB n)) ∧ Below w.heap.size w w' := by
  obtain ⟨R, hR⟩ : ∃ r, quB n = r := ⟨_, rfl⟩
  have HF : Hid (∀ q, q < 4 → ¬ okQ (n.ks q) (n.cs q) → R = false) := Lib.hid (fun q hq h => by rw [← hR]; exact quB_f (fun H => h (H q hq)))
  have HT : Hid ((∀ q, q < 4 → okQ (n.ks q) (n.cs q)) → R = true) := Lib.hid (fun h => by rw [← hR]; exact (quB_iff n).2 h)
  rw [hR]
  clear hR
  have q1 := alloc_at (w := w) (.cells #[.bool n.lf, n.v, .int .i64 n.next, .int .i64 (n.ks 0), .int .i64 (n.ks 1), .int .i64 (n.ks 2), .int .i64 (n.ks 3), .int .i64 (n.cs 0), .int .i64 (n.cs 1), .int .i64 (n.cs 2), .int .i64 (n.cs 3)] 159) rfl
  have HB := Lib.hid (below_alloc1 w (.cells #[.bool n.lf, n.v, .int .i64 n.next, .int .i64 (n.ks 0), .int .i64 (n.ks 1), .int .i64 (n.ks 2), .int .i64 (n.ks 3), .int .i64 (n.cs 0), .int .i64 (n.cs 1), .int .i64 (n.cs 2), .int .i64 (n.cs 3)] 159))
  have HC := Lib.hid (nd_cells q1)
  have HX := Lib.hid (cell_block q1)
  clear q1
  go_enter Try.func150, Try.ntmps150
  go_upto_region 1 with (fail)
  generalize World.alloc w _ = w1 at *
  have c3 := HC.out.2.2.2.1 0 (by decide)
  have c4 := HC.out.2.2.2.1 1 (by decide)
  have c5 := HC.out.2.2.2.1 2 (by decide)
  have c6 := HC.out.2.2.2.1 3 (by decide)
  simp only [Nat.add_zero, Nat.reduceAdd] at c3 c4 c5 c6
  go_wp2_with fail
  clear c3 c4 c5 c6
  go_loop [8] (fun vq => ∃ q : Nat, vq = .int .i64 q ∧ q ≤ 4 ∧ ∀ j, j < q → okQ (n.ks j) (n.cs j)) (fun vq => 4 - (intOf vq).toNat)
  case atStart => exact ⟨0, rfl, by omega, fun j h => absurd h (Nat.not_lt_zero j)⟩
  case round =>
  obtain ⟨q, rfl, hq, hP⟩ := hrel
  have HP := Lib.hid hP
  clear hP
  by_cases hq4 : q < 4
  · have dq : decide ((q : Int) < 4) = true := decide_eq_true (by omega)
    have bq : (q : Int) < 4 := by omega
    have hidx := idx4 n.ks q hq4
    have cq := HC.out.2.2.2.2 q hq4
    have HFq := Lib.hid (HF.out q hq4)
    have HS : Hid (okQ (n.ks q) (n.cs q) → ∀ j, j < q + 1 → okQ (n.ks j) (n.cs j)) := Lib.hid (fun h j hj => by
      rcases Nat.lt_or_ge j q with h1 | h1
      · exact HP.out j h1
      · obtain rfl : j = q := by omega
        exact h)
    obtain ⟨k, hk⟩ : ∃ k, n.ks q = k := ⟨_, rfl⟩
    obtain ⟨c, hc⟩ : ∃ c, n.cs q = c := ⟨_, rfl⟩
    rw [hk, hc] at HFq HS
    simp only [hk] at hidx
    rw [hc] at cq
    clear hk hc
    go_upto_region 5 with (fail)
    clear hidx cq
    by_cases k1 : k < 0
    · have hN := HFq.out (fun h => by have := h.1; omega)
      subst hN
      have d1 : decide (k < 0) = true := decide_eq_true k1
      go_wp2
      go_ret
      exact ⟨rfl, HB.out⟩
    by_cases k2 : k > 255
    · have hN := HFq.out (fun h => by have := h.2.1; omega)
      subst hN
      have d1 : decide (k < 0) = false := decide_eq_false k1
      have d2 : decide (k > 255) = true := decide_eq_true k2
      go_wp2
      go_ret
      exact ⟨rfl, HB.out⟩
    by_cases c1 : c < 0
    · have hN := HFq.out (fun h => by have := h.2.2.1; omega)
      subst hN
      have d1 : decide (k < 0) = false := decide_eq_false k1
      have d2 : decide (k > 255) = false := decide_eq_false k2
      have d3 : decide (c < 0) = true := decide_eq_true c1
      go_wp2
      go_ret
      exact ⟨rfl, HB.out⟩
    by_cases c2 : c > 65535
    · have hN := HFq.out (fun h => by have := h.2.2.2.1; omega)
      subst hN
      have d1 : decide (k < 0) = false := decide_eq_false k1
      have d2 : decide (k > 255) = false := decide_eq_false k2
      have d3 : decide (c < 0) = false := decide_eq_false c1
      have d4 : decide (c > 65535) = true := decide_eq_true c2
      go_wp2
      go_ret
      exact ⟨rfl, HB.out⟩
    have d1 : decide (k < 0) = false := decide_eq_false k1
    have d2 : decide (k > 255) = false := decide_eq_false k2
    have d3 : decide (c < 0) = false := decide_eq_false c1
    have d4 : decide (c > 65535) = false := decide_eq_false c2
    by_cases hkc : (k = 0 ↔ c = 0)
    · have hS := Lib.hid (HS.out ⟨by omega, by omega, by omega, by omega, hkc⟩)
      by_cases k0 : k = 0
      · obtain rfl : c = 0 := hkc.1 k0
        subst k0
        clear hkc
        go_wp2
        exact ⟨⟨q + 1, by go_num, by omega, hS.out⟩, by simp [intOf]; omega⟩
      · have c0 : ¬ c = 0 := fun h => k0 (hkc.2 h)
        have e1 : (k == 0) = false := by rw [beq_eq_false_iff_ne]; exact k0
        have e2 : (c == 0) = false := by rw [beq_eq_false_iff_ne]; exact c0
        clear hkc
        go_wp2
        exact ⟨⟨q + 1, by go_num, by omega, hS.out⟩, by simp [intOf]; omega⟩
    · have hN := HFq.out (fun h => hkc h.2.2.2.2)
      subst hN
      by_cases k0 : k = 0
      · have c0 : ¬ c = 0 := fun h => hkc ⟨fun _ => h, fun _ => k0⟩
        subst k0
        have e2 : (c == 0) = false := by rw [beq_eq_false_iff_ne]; exact c0
        clear hkc
        go_wp2
        go_ret
        exact ⟨rfl, HB.out⟩
      · have c0 : c = 0 := Classical.byContradiction fun h => hkc ⟨fun h2 => absurd h2 k0, fun h2 => absurd h2 h⟩
        subst c0
        have e1 : (k == 0) = false := by rw [beq_eq_false_iff_ne]; exact k0
        clear hkc
        go_wp2
        go_ret
        exact ⟨rfl, HB.out⟩
  · obtain rfl : q = 4 := by omega
    have hT := HT.out HP.out
    subst hT
    go_wp2
    go_ret
    exact ⟨rfl, HB.out⟩
end Go.Proofs.Ytjhhknkhgilecaa.Nd
