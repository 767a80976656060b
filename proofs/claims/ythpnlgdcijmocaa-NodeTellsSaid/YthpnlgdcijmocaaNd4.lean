/- The walks over node.Same, croftref08.Same. -/
import Derived.Test.YthpnlgdcijmocaaNd3
namespace Go.Proofs.Ythpnlgdcijmocaa.Nd
open Go.RowKit Lt Pt Rg
set_option linter.unusedVariables false
set_option linter.unusedSimpArgs false
def SameP (a b : NdS) : Prop := a.lf = b.lf ∧ a.next = b.next ∧ (∀ q, q < 4 → a.ks q = b.ks q) ∧ (∀ q, q < 4 → a.cs q = b.cs q) ∧ a.pts = b.pts
noncomputable def sameB (a b : NdS) : Bool := @decide (SameP a b) (Classical.propDecidable _)
theorem sameB_t {a b : NdS} (h : SameP a b) : sameB a b = true := by unfold sameB; exact @decide_eq_true _ (Classical.propDecidable _) h
theorem sameB_f {a b : NdS} (h : ¬ SameP a b) : sameB a b = false := by unfold sameB; exact @decide_eq_false _ (Classical.propDecidable _) h
theorem sameB_iff {a b : NdS} : sameB a b = true ↔ SameP a b := by unfold sameB; exact @decide_eq_true_iff _ (Classical.propDecidable _)
/-- Two nodes in memory. -/
theorem two_nodes (a b : NdS) (w : World) : Below w.heap.size w ((w.alloc (.cells (ncells a) 49)).alloc (.cells (ncells b) 49)) ∧
    ((w.alloc (.cells (ncells a) 49)).alloc (.cells (ncells b) 49)).heap[w.heap.size]? = some (.cells (ncells a) 49 (0, 0)) ∧
    ((w.alloc (.cells (ncells a) 49)).alloc (.cells (ncells b) 49)).heap[w.heap.size + 1]? = some (.cells (ncells b) 49 (0, 0)) := by
  have hw1 : (w.alloc (.cells (ncells a) 49)).heap.size = w.heap.size + 1 := by unfold World.alloc; simp
  exact ⟨below_alloc (below_alloc1 w _) _, alloc_old (alloc_at (w := w) _ rfl) _, alloc_at _ hw1.symm⟩
set_option maxHeartbeats 4000000 in
set_option maxRecDepth 100000 in
theorem same_ok (a b : NdS) (w : World) (ha : PRd w a.v a.pts) (hb : PRd w b.v b.pts) (b1 : a.pts.length ≤ 140737488355328) (b2 : b.pts.length ≤ 140737488355328) :
    Calls Try.prog 50 #[nv a, nv b] w fun e w' => e = .returned (.bool (sameB a b)) ∧ Below w.heap.size w w' := by
  obtain ⟨R, hR⟩ : ∃ r, sameB a b = r := ⟨_, rfl⟩
  have HF : Hid (¬ SameP a b → R = false) := Lib.hid (fun h => by rw [← hR]; exact sameB_f h)
  have HT : Hid (SameP a b → R = true) := Lib.hid (fun h => by rw [← hR]; exact sameB_t h)
  rw [hR]
  clear hR
  have h2 := two_nodes a b w
  have HB := Lib.hid h2.1
  have HA1 := Lib.hid (nd_cells h2.2.1)
  have HA2 := Lib.hid (nd_cells h2.2.2)
  have HEq := Lib.hid (equal_ok a.v b.v a.pts b.pts _ (ha.below h2.1) (hb.below h2.1) b1 b2)
  clear h2 ha hb
  unfold SameP at HF HT
  obtain ⟨lf, v, pts, next, ks, cs⟩ := a
  obtain ⟨lf', v', pts', next', ks', cs'⟩ := b
  simp only at HF HT HA1 HA2 HEq b1 b2
  have E1 := eqarr4 ks ks'
  have E2 := eqarr4 cs cs'
  have z1 : eqA 4 ks ks' = true ↔ ∀ q, q < 4 → ks q = ks' q := eqA_iff
  have z2 : eqA 4 cs cs' = true ↔ ∀ q, q < 4 → cs q = cs' q := eqA_iff
  have f0 := HA1.out.1
  have f1 := HA1.out.2.1
  have f2 := HA1.out.2.2.1
  have k0 := HA1.out.2.2.2.1 0 (by decide)
  have k1 := HA1.out.2.2.2.1 1 (by decide)
  have k2 := HA1.out.2.2.2.1 2 (by decide)
  have k3 := HA1.out.2.2.2.1 3 (by decide)
  have k4 := HA1.out.2.2.2.2 0 (by decide)
  have k5 := HA1.out.2.2.2.2 1 (by decide)
  have k6 := HA1.out.2.2.2.2 2 (by decide)
  have k7 := HA1.out.2.2.2.2 3 (by decide)
  have g0 := HA2.out.1
  have g1 := HA2.out.2.1
  have g2 := HA2.out.2.2.1
  have m0 := HA2.out.2.2.2.1 0 (by decide)
  have m1 := HA2.out.2.2.2.1 1 (by decide)
  have m2 := HA2.out.2.2.2.1 2 (by decide)
  have m3 := HA2.out.2.2.2.1 3 (by decide)
  have m4 := HA2.out.2.2.2.2 0 (by decide)
  have m5 := HA2.out.2.2.2.2 1 (by decide)
  have m6 := HA2.out.2.2.2.2 2 (by decide)
  have m7 := HA2.out.2.2.2.2 3 (by decide)
  simp only [Nat.add_zero, Nat.reduceAdd] at k0 k1 k2 k3 k4 k5 k6 k7 m0 m1 m2 m3 m4 m5 m6 m7
  clear HA1 HA2
  by_cases h1 : lf = lf'
  · subst h1
    by_cases h2 : next = next'
    · subst h2
      cases hb1 : eqA 4 ks ks'
      · have hN := HF.out (fun h => by have := z1.2 h.2.2.1; rw [hb1] at this; cases this)
        subst hN
        simp only [hb1] at E1
        clear z1 z2 hb1 E2
        go_enter Try.func50, Try.ntmps50
        go_wp2
        go_ret
        exact ⟨rfl, HB.out⟩
      · have H1 := Lib.hid (z1.1 hb1)
        simp only [hb1] at E1
        cases hb2 : eqA 4 cs cs'
        · have hN := HF.out (fun h => by have := z2.2 h.2.2.2.1; rw [hb2] at this; cases this)
          subst hN
          simp only [hb2] at E2
          clear z1 z2 hb1 hb2
          go_enter Try.func50, Try.ntmps50
          go_wp2
          go_ret
          exact ⟨rfl, HB.out⟩
        · have H2 := Lib.hid (z2.1 hb2)
          simp only [hb2] at E2
          have hQ : Hid (eqL pts pts' = R) := Lib.hid (by
            by_cases h3 : pts = pts'
            · rw [HT.out ⟨rfl, rfl, H1.out, H2.out, h3⟩]; exact eqL_t h3
            · rw [HF.out (fun h => h3 h.2.2.2.2)]; exact eqL_f h3)
          clear z1 z2 hb1 hb2
          go_enter Try.func50, Try.ntmps50
          go_wp2_with fail
          (with_reducible refine HEq.out.mono ?_); rintro e w2 ⟨rfl, hb⟩
          have HB2 := Lib.hid (below_up HB.out hb)
          clear hb
          go_wp2
          go_ret
          exact ⟨ret_bool hQ.out, HB2.out⟩
    · have hN := HF.out (fun h => h2 h.2.1)
      subst hN
      have e1 : (next == next') = false := by rw [beq_eq_false_iff_ne]; exact h2
      clear z1 z2 E1 E2
      go_enter Try.func50, Try.ntmps50
      go_wp2
      go_ret
      exact ⟨rfl, HB.out⟩
  · have hN := HF.out (fun h => h1 h.1)
    subst hN
    have e1 : (lf == lf') = false := by rw [beq_eq_false_iff_ne]; exact h1
    clear z1 z2 E1 E2
    go_enter Try.func50, Try.ntmps50
    go_wp2
    go_ret
    exact ⟨rfl, HB.out⟩
set_option maxHeartbeats 4000000 in
set_option maxRecDepth 100000 in
theorem rsame_ok (a b : NdS) (w : World) (ha : PRd w a.v a.pts) (hb : PRd w b.v b.pts) (b1 : a.pts.length ≤ 140737488355328) (b2 : b.pts.length ≤ 140737488355328) :
    Calls Try.prog 26 #[nv a, nv b] w fun e w' => e = .returned (.bool (sameB a b)) ∧ Below w.heap.size w w' := by
  obtain ⟨R, hR⟩ : ∃ r, sameB a b = r := ⟨_, rfl⟩
  have HF : Hid (¬ SameP a b → R = false) := Lib.hid (fun h => by rw [← hR]; exact sameB_f h)
  have HT : Hid (SameP a b → R = true) := Lib.hid (fun h => by rw [← hR]; exact sameB_t h)
  rw [hR]
  clear hR
  have h2 := two_nodes a b w
  have HB := Lib.hid h2.1
  have HA1 := Lib.hid (nd_cells h2.2.1)
  have HA2 := Lib.hid (nd_cells h2.2.2)
  have HP := Lib.hid (And.intro (ha.below h2.1) (hb.below h2.1))
  clear h2 ha hb
  unfold SameP at HF HT
  obtain ⟨lf, v, pts, next, ks, cs⟩ := a
  obtain ⟨lf', v', pts', next', ks', cs'⟩ := b
  simp only at HF HT HA1 HA2 HP b1 b2
  obtain ⟨A1, c1, rfl, _, _⟩ := id HP.out.1
  obtain ⟨A2, c2, rfl, _, _⟩ := id HP.out.2
  have E1 := neqarr4 ks ks'
  have E2 := neqarr4 cs cs'
  have z1 : eqA 4 ks ks' = true ↔ ∀ q, q < 4 → ks q = ks' q := eqA_iff
  have z2 : eqA 4 cs cs' = true ↔ ∀ q, q < 4 → cs q = cs' q := eqA_iff
  have f0 := HA1.out.1
  have f1 := HA1.out.2.1
  have f2 := HA1.out.2.2.1
  have k0 := HA1.out.2.2.2.1 0 (by decide)
  have k1 := HA1.out.2.2.2.1 1 (by decide)
  have k2 := HA1.out.2.2.2.1 2 (by decide)
  have k3 := HA1.out.2.2.2.1 3 (by decide)
  have k4 := HA1.out.2.2.2.2 0 (by decide)
  have k5 := HA1.out.2.2.2.2 1 (by decide)
  have k6 := HA1.out.2.2.2.2 2 (by decide)
  have k7 := HA1.out.2.2.2.2 3 (by decide)
  have g0 := HA2.out.1
  have g1 := HA2.out.2.1
  have g2 := HA2.out.2.2.1
  have m0 := HA2.out.2.2.2.1 0 (by decide)
  have m1 := HA2.out.2.2.2.1 1 (by decide)
  have m2 := HA2.out.2.2.2.1 2 (by decide)
  have m3 := HA2.out.2.2.2.1 3 (by decide)
  have m4 := HA2.out.2.2.2.2 0 (by decide)
  have m5 := HA2.out.2.2.2.2 1 (by decide)
  have m6 := HA2.out.2.2.2.2 2 (by decide)
  have m7 := HA2.out.2.2.2.2 3 (by decide)
  simp only [Nat.add_zero, Nat.reduceAdd] at k0 k1 k2 k3 k4 k5 k6 k7 m0 m1 m2 m3 m4 m5 m6 m7
  by_cases h1 : lf = lf'
  · subst h1
    have e0 : (lf != lf) = false := by simp
    by_cases h2 : next = next'
    · subst h2
      cases hb1 : eqA 4 ks ks'
      · have hN := HF.out (fun h => by have := z1.2 h.2.2.1; rw [hb1] at this; cases this)
        subst hN
        simp only [hb1, Bool.not_false] at E1
        clear z1 z2 hb1 E2
        go_enter Try.func26, Try.ntmps26
        go_wp2
        go_ret
        exact ⟨rfl, HB.out⟩
      · have H1 := Lib.hid (z1.1 hb1)
        simp only [hb1, Bool.not_true] at E1
        cases hb2 : eqA 4 cs cs'
        · have hN := HF.out (fun h => by have := z2.2 h.2.2.2.1; rw [hb2] at this; cases this)
          subst hN
          simp only [hb2, Bool.not_false] at E2
          clear z1 z2 hb1 hb2
          go_enter Try.func26, Try.ntmps26
          go_wp2
          go_ret
          exact ⟨rfl, HB.out⟩
        · have H2 := Lib.hid (z2.1 hb2)
          simp only [hb2, Bool.not_true] at E2
          clear z1 z2 hb1 hb2
          by_cases hl : pts.length = pts'.length
          · have HL := Lib.hid hl
            have e1 : ((pts.length : Int) != pts'.length) = false := by rw [bne_eq_false_iff_eq]; omega
            have e2 : (pts.length != pts'.length) = false := by rw [bne_eq_false_iff_eq]; exact hl
            clear hl
            go_enter Try.func26, Try.ntmps26
            go_wp2_with fail
            clear e0 e1 e2 E1 E2 f0 f2 k0 k1 k2 k3 k4 k5 k6 k7 g0 g2 m0 m1 m2 m3 m4 m5 m6 m7 f1 g1
            generalize ((w.alloc _).alloc _) = w1 at *
            go_loopw [5] (fun vj W => ∃ j : Nat, vj = .int .i64 j ∧ j ≤ pts.length ∧ (∀ i (h1 : i < pts.length) (h2 : i < pts'.length), i < j → pts[i] = pts'[i]) ∧ Below w1.heap.size w1 W) (fun vj _ => pts.length - (intOf vj).toNat)
            case atStart => exact ⟨0, rfl, Nat.zero_le _, fun i _ _ h => absurd h (Nat.not_lt_zero i), Below.refl _ _⟩
            case round =>
            obtain ⟨j, rfl, hj, hPj, hBj⟩ := hrel
            have HPj := Lib.hid hPj; have HBj := Lib.hid hBj
            have q1 := cell_up HA1.out.2.1 hBj
            have q2 := cell_up HA2.out.2.1 hBj
            clear hPj hBj
            by_cases hjl : j < pts.length
            · have dj : decide (j < pts.length) = true := decide_eq_true hjl
              have bj : (j : Int) < pts.length := by omega
              have hj2 : j < pts'.length := by have := HL.out; omega
              have bj2 : (j : Int) < pts'.length := by omega
              have HD := Lib.hid (below_up HBj.out (below_drew1 (w := wr)))
              obtain ⟨x1, o1, rfl, f1⟩ := pt_at (HP.out.1.below HD.out) hjl
              obtain ⟨x2, o2, rfl, f2⟩ := pt_at (HP.out.2.below HD.out) hj2
              have r1 := cell_up HA1.out.2.1 HD.out
              have r2 := cell_up HA2.out.2.1 HD.out
              have HN : Hid (¬ pts[j] = pts'[j] → ¬ pts = pts') := Lib.hid (fun h e => by subst e; exact h rfl)
              have HY : Hid (pts[j] = pts'[j] → ∀ i (h1 : i < pts.length) (h2 : i < pts'.length), i < j + 1 → pts[i] = pts'[i]) := Lib.hid (fun h i h1 h2 hi => by
                rcases Nat.lt_or_ge i j with h3 | h3
                · exact HPj.out i h1 h2 h3
                · obtain rfl : i = j := by omega
                  exact h)
              have hn := neqPt pts[j] pts'[j]
              have hq := eqPt_iff pts[j] pts'[j]
              generalize pts[j] = x at *
              generalize pts'[j] = y at *
              go_upto_region 6 with (fail)
              clear q1 q2
              by_cases hxy : x = y
              · have hE := Lib.hid (HY.out hxy)
                have hb := hq.2 hxy
                simp only [hb] at hn
                clear hq hb
                refine beginS (S := fun W' => (W'.cell? ⟨x1, o1 + j * 4, none⟩ = some (.int .i64 x.id) ∧ W'.cell? ⟨x1, o1 + j * 4 + 1, none⟩ = some (.int .u32 (x.x : Nat)) ∧ W'.cell? ⟨x1, o1 + j * 4 + 2, none⟩ = some (.int .u32 (x.y : Nat)) ∧ W'.cell? ⟨x1, o1 + j * 4 + 3, none⟩ = some (.string x.d)) ∧ (W'.cell? ⟨x2, o2 + j * 4, none⟩ = some (.int .i64 y.id) ∧ W'.cell? ⟨x2, o2 + j * 4 + 1, none⟩ = some (.int .u32 (y.x : Nat)) ∧ W'.cell? ⟨x2, o2 + j * 4 + 2, none⟩ = some (.int .u32 (y.y : Nat)) ∧ W'.cell? ⟨x2, o2 + j * 4 + 3, none⟩ = some (.string y.d)) ∧ W'.cell? ⟨w.heap.size, 1, none⟩ = some (.slice (some ⟨x1, o1, none⟩) pts.length c1) ∧ W'.cell? ⟨w.heap.size + 1, 1, none⟩ = some (.slice (some ⟨x2, o2, none⟩) pts'.length c2)) [] (by kernel_rfl) ⟨f1, f2, r1, r2⟩ (fun hHeld0 => ?_)
                clear f1 f2 hxy r1 r2
                generalize (World.drew wr) = W0 at *
                refine takeF (i := 0) (v := ?_) rfl (by kernel_rfl) (fun _ _ _ h => h) (Or.inl ⟨by kernel_rfl, ?_⟩) (by assumption) ?_; rotate_left; (focus (intro w _; go_simp; (try with_reducible rfl); done)); (try simp only [Act.put, List.getElem_toArray, List.getElem_cons_succ, List.getElem_cons_zero, List.setIfInBounds_toArray, List.set_cons_zero, List.set_cons_succ])
                refine takeH (i := 1) (v := ?_) rfl (by kernel_rfl) (fun _ _ _ h => h) (Or.inl ⟨by kernel_rfl, ?_⟩) (by assumption) ?_; rotate_left; (focus (intro w hSw; (try dsimp only at hSw); go_simp; (try with_reducible rfl); done)); (try simp only [Act.put, List.getElem_toArray, List.getElem_cons_succ, List.getElem_cons_zero, List.setIfInBounds_toArray, List.set_cons_zero, List.set_cons_succ])
                refine takeF (i := 2) (v := ?_) rfl (by kernel_rfl) (fun _ _ _ h => h) (Or.inl ⟨by kernel_rfl, ?_⟩) (by assumption) ?_; rotate_left; (focus (intro w _; go_simp; (try with_reducible rfl); done)); (try simp only [Act.put, List.getElem_toArray, List.getElem_cons_succ, List.getElem_cons_zero, List.setIfInBounds_toArray, List.set_cons_zero, List.set_cons_succ])
                refine takeF (i := 3) (v := ?_) rfl (by kernel_rfl) (fun _ _ _ h => h) (Or.inl ⟨by kernel_rfl, ?_⟩) (by assumption) ?_; rotate_left; (focus (intro w _; go_simp; (try with_reducible rfl); done)); (try simp only [Act.put, List.getElem_toArray, List.getElem_cons_succ, List.getElem_cons_zero, List.setIfInBounds_toArray, List.set_cons_zero, List.set_cons_succ])
                refine takeH (i := 4) (v := ?_) rfl (by kernel_rfl) (fun _ _ _ h => h) (Or.inl ⟨by kernel_rfl, ?_⟩) (by assumption) ?_; rotate_left; (focus (intro w hSw; (try dsimp only at hSw); go_simp; (try with_reducible rfl); done)); (try simp only [Act.put, List.getElem_toArray, List.getElem_cons_succ, List.getElem_cons_zero, List.setIfInBounds_toArray, List.set_cons_zero, List.set_cons_succ])
                refine takeF (i := 5) (v := ?_) rfl (by kernel_rfl) (fun _ _ _ h => h) (Or.inl ⟨by kernel_rfl, ?_⟩) (by assumption) ?_; rotate_left; (focus (intro w _; go_simp; (try with_reducible rfl); done)); (try simp only [Act.put, List.getElem_toArray, List.getElem_cons_succ, List.getElem_cons_zero, List.setIfInBounds_toArray, List.set_cons_zero, List.set_cons_succ])
                refine takeH (i := 6) (v := ?_) rfl (by kernel_rfl) (fun _ _ _ h => h) (Or.inl ⟨by kernel_rfl, ?_⟩) (by assumption) ?_; rotate_left; (focus (intro w hSw; (try dsimp only at hSw); go_simp; (try with_reducible rfl); done)); (try simp only [Act.put, List.getElem_toArray, List.getElem_cons_succ, List.getElem_cons_zero, List.setIfInBounds_toArray, List.set_cons_zero, List.set_cons_succ])
                refine takeF (i := 7) (v := ?_) rfl (by kernel_rfl) (fun _ _ _ h => h) (Or.inl ⟨by kernel_rfl, ?_⟩) (by assumption) ?_; rotate_left; (focus (intro w _; go_simp; (try with_reducible rfl); done)); (try simp only [Act.put, List.getElem_toArray, List.getElem_cons_succ, List.getElem_cons_zero, List.setIfInBounds_toArray, List.set_cons_zero, List.set_cons_succ])
                refine takeF (i := 8) (v := ?_) rfl (by kernel_rfl) (fun _ _ _ h => h) (Or.inl ⟨by kernel_rfl, ?_⟩) (by assumption) ?_; rotate_left; (focus (intro w _; go_simp; (try with_reducible rfl); done)); (try simp only [Act.put, List.getElem_toArray, List.getElem_cons_succ, List.getElem_cons_zero, List.setIfInBounds_toArray, List.set_cons_zero, List.set_cons_succ])
                refine takeH (i := 9) (v := ?_) rfl (by kernel_rfl) (fun _ _ _ h => h) (Or.inl ⟨by kernel_rfl, ?_⟩) (by assumption) ?_; rotate_left; (focus (intro w hSw; (try dsimp only at hSw); go_simp; (try with_reducible rfl); done)); (try simp only [Act.put, List.getElem_toArray, List.getElem_cons_succ, List.getElem_cons_zero, List.setIfInBounds_toArray, List.set_cons_zero, List.set_cons_succ])
                refine takeF (i := 10) (v := ?_) rfl (by kernel_rfl) (fun _ _ _ h => h) (Or.inl ⟨by kernel_rfl, ?_⟩) (by assumption) ?_; rotate_left; (focus (intro w _; go_simp; (try with_reducible rfl); done)); (try simp only [Act.put, List.getElem_toArray, List.getElem_cons_succ, List.getElem_cons_zero, List.setIfInBounds_toArray, List.set_cons_zero, List.set_cons_succ])
                clear hHeld0 hn
                refine doneS (by kernel_rfl) ?_ _
                go_wp2
                exact ⟨⟨j + 1, by go_num, by omega, hE.out, HD.out⟩, by simp [intOf]; omega⟩
              · have hN := HF.out (fun h => HN.out hxy h.2.2.2.2)
                subst hN
                have hb : eqPt x y = false := by
                  cases h : eqPt x y
                  · rfl
                  · exact absurd (hq.1 h) hxy
                simp only [hb] at hn
                clear hq hb
                refine beginS (S := fun W' => (W'.cell? ⟨x1, o1 + j * 4, none⟩ = some (.int .i64 x.id) ∧ W'.cell? ⟨x1, o1 + j * 4 + 1, none⟩ = some (.int .u32 (x.x : Nat)) ∧ W'.cell? ⟨x1, o1 + j * 4 + 2, none⟩ = some (.int .u32 (x.y : Nat)) ∧ W'.cell? ⟨x1, o1 + j * 4 + 3, none⟩ = some (.string x.d)) ∧ (W'.cell? ⟨x2, o2 + j * 4, none⟩ = some (.int .i64 y.id) ∧ W'.cell? ⟨x2, o2 + j * 4 + 1, none⟩ = some (.int .u32 (y.x : Nat)) ∧ W'.cell? ⟨x2, o2 + j * 4 + 2, none⟩ = some (.int .u32 (y.y : Nat)) ∧ W'.cell? ⟨x2, o2 + j * 4 + 3, none⟩ = some (.string y.d)) ∧ W'.cell? ⟨w.heap.size, 1, none⟩ = some (.slice (some ⟨x1, o1, none⟩) pts.length c1) ∧ W'.cell? ⟨w.heap.size + 1, 1, none⟩ = some (.slice (some ⟨x2, o2, none⟩) pts'.length c2)) [] (by kernel_rfl) ⟨f1, f2, r1, r2⟩ (fun hHeld0 => ?_)
                clear f1 f2 hxy r1 r2
                generalize (World.drew wr) = W0 at *
                refine takeF (i := 0) (v := ?_) rfl (by kernel_rfl) (fun _ _ _ h => h) (Or.inl ⟨by kernel_rfl, ?_⟩) (by assumption) ?_; rotate_left; (focus (intro w _; go_simp; (try with_reducible rfl); done)); (try simp only [Act.put, List.getElem_toArray, List.getElem_cons_succ, List.getElem_cons_zero, List.setIfInBounds_toArray, List.set_cons_zero, List.set_cons_succ])
                refine takeH (i := 1) (v := ?_) rfl (by kernel_rfl) (fun _ _ _ h => h) (Or.inl ⟨by kernel_rfl, ?_⟩) (by assumption) ?_; rotate_left; (focus (intro w hSw; (try dsimp only at hSw); go_simp; (try with_reducible rfl); done)); (try simp only [Act.put, List.getElem_toArray, List.getElem_cons_succ, List.getElem_cons_zero, List.setIfInBounds_toArray, List.set_cons_zero, List.set_cons_succ])
                refine takeF (i := 2) (v := ?_) rfl (by kernel_rfl) (fun _ _ _ h => h) (Or.inl ⟨by kernel_rfl, ?_⟩) (by assumption) ?_; rotate_left; (focus (intro w _; go_simp; (try with_reducible rfl); done)); (try simp only [Act.put, List.getElem_toArray, List.getElem_cons_succ, List.getElem_cons_zero, List.setIfInBounds_toArray, List.set_cons_zero, List.set_cons_succ])
                refine takeF (i := 3) (v := ?_) rfl (by kernel_rfl) (fun _ _ _ h => h) (Or.inl ⟨by kernel_rfl, ?_⟩) (by assumption) ?_; rotate_left; (focus (intro w _; go_simp; (try with_reducible rfl); done)); (try simp only [Act.put, List.getElem_toArray, List.getElem_cons_succ, List.getElem_cons_zero, List.setIfInBounds_toArray, List.set_cons_zero, List.set_cons_succ])
                refine takeH (i := 4) (v := ?_) rfl (by kernel_rfl) (fun _ _ _ h => h) (Or.inl ⟨by kernel_rfl, ?_⟩) (by assumption) ?_; rotate_left; (focus (intro w hSw; (try dsimp only at hSw); go_simp; (try with_reducible rfl); done)); (try simp only [Act.put, List.getElem_toArray, List.getElem_cons_succ, List.getElem_cons_zero, List.setIfInBounds_toArray, List.set_cons_zero, List.set_cons_succ])
                refine takeF (i := 5) (v := ?_) rfl (by kernel_rfl) (fun _ _ _ h => h) (Or.inl ⟨by kernel_rfl, ?_⟩) (by assumption) ?_; rotate_left; (focus (intro w _; go_simp; (try with_reducible rfl); done)); (try simp only [Act.put, List.getElem_toArray, List.getElem_cons_succ, List.getElem_cons_zero, List.setIfInBounds_toArray, List.set_cons_zero, List.set_cons_succ])
                refine takeH (i := 6) (v := ?_) rfl (by kernel_rfl) (fun _ _ _ h => h) (Or.inl ⟨by kernel_rfl, ?_⟩) (by assumption) ?_; rotate_left; (focus (intro w hSw; (try dsimp only at hSw); go_simp; (try with_reducible rfl); done)); (try simp only [Act.put, List.getElem_toArray, List.getElem_cons_succ, List.getElem_cons_zero, List.setIfInBounds_toArray, List.set_cons_zero, List.set_cons_succ])
                refine takeF (i := 7) (v := ?_) rfl (by kernel_rfl) (fun _ _ _ h => h) (Or.inl ⟨by kernel_rfl, ?_⟩) (by assumption) ?_; rotate_left; (focus (intro w _; go_simp; (try with_reducible rfl); done)); (try simp only [Act.put, List.getElem_toArray, List.getElem_cons_succ, List.getElem_cons_zero, List.setIfInBounds_toArray, List.set_cons_zero, List.set_cons_succ])
                refine takeF (i := 8) (v := ?_) rfl (by kernel_rfl) (fun _ _ _ h => h) (Or.inl ⟨by kernel_rfl, ?_⟩) (by assumption) ?_; rotate_left; (focus (intro w _; go_simp; (try with_reducible rfl); done)); (try simp only [Act.put, List.getElem_toArray, List.getElem_cons_succ, List.getElem_cons_zero, List.setIfInBounds_toArray, List.set_cons_zero, List.set_cons_succ])
                refine takeH (i := 9) (v := ?_) rfl (by kernel_rfl) (fun _ _ _ h => h) (Or.inl ⟨by kernel_rfl, ?_⟩) (by assumption) ?_; rotate_left; (focus (intro w hSw; (try dsimp only at hSw); go_simp; (try with_reducible rfl); done)); (try simp only [Act.put, List.getElem_toArray, List.getElem_cons_succ, List.getElem_cons_zero, List.setIfInBounds_toArray, List.set_cons_zero, List.set_cons_succ])
                refine takeF (i := 10) (v := ?_) rfl (by kernel_rfl) (fun _ _ _ h => h) (Or.inl ⟨by kernel_rfl, ?_⟩) (by assumption) ?_; rotate_left; (focus (intro w _; go_simp; (try with_reducible rfl); done)); (try simp only [Act.put, List.getElem_toArray, List.getElem_cons_succ, List.getElem_cons_zero, List.setIfInBounds_toArray, List.set_cons_zero, List.set_cons_succ])
                clear hHeld0 hn
                refine doneS (by kernel_rfl) ?_ _
                go_wp2
                go_ret
                exact ⟨rfl, below_up HB.out HD.out⟩
            · obtain rfl : j = pts.length := by omega
              have dj : decide (pts.length < pts.length) = false := decide_eq_false (by omega)
              have hT := HT.out (by first | exact ⟨rfl, rfl, H1.out, H2.out, list_eq HL.out HPj.out⟩ | exact ⟨trivial, trivial, H1.out, H2.out, list_eq HL.out HPj.out⟩)
              subst hT
              go_wp2
              go_ret
              exact ⟨rfl, below_up HB.out HBj.out⟩
          · have e1 : ((pts.length : Int) != pts'.length) = true := by rw [bne_iff_ne]; omega
            have e2 : (pts.length != pts'.length) = true := by rw [bne_iff_ne]; exact hl
            have hN := HF.out (fun h => hl (by rw [h.2.2.2.2]))
            subst hN
            go_enter Try.func26, Try.ntmps26
            go_wp2
            go_ret
            exact ⟨rfl, HB.out⟩
    · have hN := HF.out (fun h => h2 h.2.1)
      subst hN
      have e1 : (next != next') = true := by rw [bne_iff_ne]; exact h2
      clear z1 z2 E1 E2
      go_enter Try.func26, Try.ntmps26
      go_wp2
      go_ret
      exact ⟨rfl, HB.out⟩
  · have hN := HF.out (fun h => h1 h.1)
    subst hN
    have e1 : (lf != lf') = true := by rw [bne_iff_ne]; exact h1
    clear z1 z2 E1 E2
    go_enter Try.func26, Try.ntmps26
    go_wp2
    go_ret
    exact ⟨rfl, HB.out⟩
end Go.Proofs.Ythpnlgdcijmocaa.Nd
