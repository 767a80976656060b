/- The walks over node.may, node.Check. -/
import Derived.Test.YtjhhknkhgilecaaNd1
namespace Go.Proofs.Ytjhhknkhgilecaa.Nd
open Go.RowKit Lt Pt Rg
set_option linter.unusedVariables false
set_option linter.unusedSimpArgs false
theorem eqarr4 (f g : Nat → Int) (w : World) : (binOp .eql 157 (.agg #[.int .i64 (f 0), .int .i64 (f 1), .int .i64 (f 2), .int .i64 (f 3)]) (.agg #[.int .i64 (g 0), .int .i64 (g 1), .int .i64 (g 2), .int .i64 (g 3)])).run Try.prog w = .ok (.bool (eqA 4 f g)) w :=
  eql_of (run_eqarr Try.underlying157 (by kernel_rfl) (by kernel_rfl) (by kernel_rfl) Try.underlying3 _ f g w)
theorem neqarr4 (f g : Nat → Int) (w : World) : (binOp .neq 157 (.agg #[.int .i64 (f 0), .int .i64 (f 1), .int .i64 (f 2), .int .i64 (f 3)]) (.agg #[.int .i64 (g 0), .int .i64 (g 1), .int .i64 (g 2), .int .i64 (g 3)])).run Try.prog w = .ok (.bool (!(eqA 4 f g))) w :=
  neq_of (run_eqarr Try.underlying157 (by kernel_rfl) (by kernel_rfl) (by kernel_rfl) Try.underlying3 _ f g w)
theorem eqA_false {n : Nat} {f g : Nat → Int} (h : ¬ ∀ i, i < n → f i = g i) : eqA n f g = false := by
  cases hb : eqA n f g
  · rfl
  · exact absurd (eqA_iff.1 hb) h
abbrev ncells (n : NdS) : Array Value := #[.bool n.lf, n.v, .int .i64 n.next, .int .i64 (n.ks 0), .int .i64 (n.ks 1), .int .i64 (n.ks 2), .int .i64 (n.ks 3), .int .i64 (n.cs 0), .int .i64 (n.cs 1), .int .i64 (n.cs 2), .int .i64 (n.cs 3)]
set_option maxHeartbeats 4000000 in
set_option maxRecDepth 100000 in
theorem may_ok (n : NdS) (w : World) (h : PRd w n.v n.pts) (hl : n.pts.length ≤ 140737488355328) : Calls Try.prog 141 #[nv n] w fun e w' => e = .returned (.bool (mayB n)) ∧ Below w.heap.size w w' := by
  obtain ⟨R, hR⟩ : ∃ r, mayB n = r := ⟨_, rfl⟩
  have HF : Hid (¬ May n → R = false) := Lib.hid (fun h => by rw [← hR]; exact mayB_f h)
  have HT : Hid (May n → R = true) := Lib.hid (fun h => by rw [← hR]; exact (mayB_iff n).2 h)
  rw [hR]
  clear hR
  have q1 := alloc_at (w := w) (.cells (ncells n) 159) rfl
  have HB := Lib.hid (below_alloc1 w (.cells (ncells n) 159))
  have HX := Lib.hid q1
  have HV := Lib.hid (h.below HB.out)
  have HQc := Lib.hid (fun W => quarters_ok n W)
  clear q1 h
  unfold May at HF HT
  obtain ⟨lf, v, pts, next, ks, cs⟩ := n
  simp only at HF HT HX HV HQc hl
  have E1 := eqarr4 ks (fun _ => 0)
  have E2 := eqarr4 cs (fun _ => 0)
  have z1 : eqA 4 ks (fun _ => 0) = true ↔ ∀ q, q < 4 → ks q = 0 := eqA_iff
  have z2 : eqA 4 cs (fun _ => 0) = true ↔ ∀ q, q < 4 → cs q = 0 := eqA_iff
  have HC := Lib.hid (fun (W : World) (hb : Below (w.alloc (.cells (ncells ⟨lf, v, pts, next, ks, cs⟩) 159)).heap.size (w.alloc (.cells (ncells ⟨lf, v, pts, next, ks, cs⟩) 159)) W) => nd_cells (block_up HX.out hb))
  simp only at HC
  cases lf
  · simp only [Bool.false_eq_true, if_false] at HF HT
    have hn0 : pts = [] ↔ pts.length = 0 := ⟨fun h => by rw [h]; rfl, List.eq_nil_of_length_eq_zero⟩
    obtain ⟨A, c, rfl, _, _⟩ := HV.out
    have f0 := (HC.out _ (Below.refl _ _)).1
    have f1 := (HC.out _ (Below.refl _ _)).2.1
    have f2 := (HC.out _ (Below.refl _ _)).2.2.1
    have g3 := (HC.out _ (Below.refl _ _)).2.2.2.1
    have g7 := (HC.out _ (Below.refl _ _)).2.2.2.2
    have k0 := g3 0 (by decide)
    have k1 := g3 1 (by decide)
    have k2 := g3 2 (by decide)
    have k3 := g3 3 (by decide)
    have k4 := g7 0 (by decide)
    have k5 := g7 1 (by decide)
    have k6 := g7 2 (by decide)
    have k7 := g7 3 (by decide)
    simp only [Nat.add_zero, Nat.reduceAdd] at k0 k1 k2 k3 k4 k5 k6 k7
    clear g3 g7 E1 E2 z1 z2
    by_cases h1 : pts = []
    · subst h1
      by_cases h2 : next = 0
      · subst h2
        have HQ2 := Lib.hid (HQc.out (w.alloc (.cells (ncells ⟨false, .slice A 0 c, [], 0, ks, cs⟩) 159)))
        have hQ : Hid (quB ⟨false, .slice A 0 c, [], 0, ks, cs⟩ = R) := Lib.hid (by
          by_cases h3 : ∀ q, q < 4 → okQ (ks q) (cs q)
          · rw [HT.out ⟨rfl, rfl, h3⟩]; exact (quB_iff _).2 h3
          · rw [HF.out (fun h => h3 h.2.2)]; exact quB_f h3)
        go_enter Try.func141, Try.ntmps141
        go_wp2_with fail
        refine HQ2.out.mono ?_; rintro e w2 ⟨rfl, hb⟩
        have HB2 := Lib.hid (below_up HB.out hb)
        clear hb f0 f1 f2 k0 k1 k2 k3 k4 k5 k6 k7
        generalize World.alloc w _ = w1 at *
        go_wp2
        go_ret
        exact ⟨ret_bool hQ.out, HB2.out⟩
      · have hN := HF.out (fun h => h2 h.2.1)
        subst hN
        have e1 : (next == 0) = false := by rw [beq_eq_false_iff_ne]; exact h2
        go_enter Try.func141, Try.ntmps141
        go_wp2
        go_ret
        exact ⟨rfl, HB.out⟩
    · have hN := HF.out (fun h => h1 h.1)
      subst hN
      have h3 : pts.length ≠ 0 := fun h => h1 (hn0.2 h)
      have e1 : ((pts.length : Int) == 0) = false := by rw [beq_eq_false_iff_ne]; omega
      have e2 : (pts.length == 0) = false := by rw [beq_eq_false_iff_ne]; exact h3
      clear hn0
      go_enter Try.func141, Try.ntmps141
      go_wp2
      go_ret
      exact ⟨rfl, HB.out⟩
  · simp only [if_true] at HF HT
    obtain ⟨A, c, rfl, _, _⟩ := id HV.out
    have hpt := points_ok (.slice A pts.length c) pts (w.alloc (.cells (ncells ⟨true, .slice A pts.length c, pts, next, ks, cs⟩) 159)) HV.out hl
    by_cases hp : PtsMay pts
    · rw [(ptsB_iff pts).2 hp] at hpt
      have HPt := Lib.hid hpt
      clear hpt
      have f0 := (HC.out _ (Below.refl _ _)).1
      have f1 := (HC.out _ (Below.refl _ _)).2.1
      go_enter Try.func141, Try.ntmps141
      go_wp2_with fail
      generalize World.alloc w _ = w1 at *
      (with_reducible refine HPt.out.mono ?_); rintro e w2 ⟨rfl, hb⟩
      have HB2 := Lib.hid (below_up HB.out hb)
      have g2 := (HC.out _ hb).2.2.1
      have g3 := (HC.out _ hb).2.2.2.1
      have g7 := (HC.out _ hb).2.2.2.2
      have k0 := g3 0 (by decide)
      have k1 := g3 1 (by decide)
      have k2 := g3 2 (by decide)
      have k3 := g3 3 (by decide)
      have k4 := g7 0 (by decide)
      have k5 := g7 1 (by decide)
      have k6 := g7 2 (by decide)
      have k7 := g7 3 (by decide)
      simp only [Nat.add_zero, Nat.reduceAdd] at k0 k1 k2 k3 k4 k5 k6 k7
      clear hb g3 g7 f0 f1
      by_cases h1 : 0 ≤ next
      · have d1 : decide (next ≥ 0) = true := decide_eq_true h1
        by_cases h2 : next ≤ 255
        · have d2 : decide (next ≤ 255) = true := decide_eq_true h2
          cases hb1 : eqA 4 ks (fun _ => 0)
          · have hN := HF.out (fun h => by have := z1.2 h.2.2.2.1; rw [hb1] at this; cases this)
            subst hN
            simp only [hb1] at E1
            clear z1 z2 hb1 E2
            go_wp2
            go_ret
            exact ⟨rfl, HB2.out⟩
          · have H1 := z1.1 hb1
            simp only [hb1] at E1
            cases hb2 : eqA 4 cs (fun _ => 0)
            · have hN := HF.out (fun h => by have := z2.2 h.2.2.2.2; rw [hb2] at this; cases this)
              subst hN
              simp only [hb2] at E2
              clear z1 z2 hb1 hb2 H1
              go_wp2
              go_ret
              exact ⟨rfl, HB2.out⟩
            · have hN := HT.out ⟨hp, h1, h2, H1, z2.1 hb2⟩
              subst hN
              simp only [hb2] at E2
              clear z1 z2 hb1 hb2 H1
              go_wp2
              go_ret
              exact ⟨rfl, HB2.out⟩
        · have hN := HF.out (fun h => h2 h.2.2.1)
          subst hN
          have d2 : decide (next ≤ 255) = false := decide_eq_false h2
          clear z1 z2 E1 E2
          go_wp2
          go_ret
          exact ⟨rfl, HB2.out⟩
      · have hN := HF.out (fun h => h1 h.2.1)
        subst hN
        have d1 : decide (next ≥ 0) = false := decide_eq_false h1
        clear z1 z2 E1 E2
        go_wp2
        go_ret
        exact ⟨rfl, HB2.out⟩
    · rw [ptsB_f hp] at hpt
      have HPt := Lib.hid hpt
      clear hpt
      have f0 := (HC.out _ (Below.refl _ _)).1
      have f1 := (HC.out _ (Below.refl _ _)).2.1
      go_enter Try.func141, Try.ntmps141
      go_wp2_with fail
      generalize World.alloc w _ = w1 at *
      (with_reducible refine HPt.out.mono ?_); rintro e w2 ⟨rfl, hb⟩
      have HB2 := Lib.hid (below_up HB.out hb)
      have g2 := (HC.out _ hb).2.2.1
      have g3 := (HC.out _ hb).2.2.2.1
      have g7 := (HC.out _ hb).2.2.2.2
      have k0 := g3 0 (by decide)
      have k1 := g3 1 (by decide)
      have k2 := g3 2 (by decide)
      have k3 := g3 3 (by decide)
      have k4 := g7 0 (by decide)
      have k5 := g7 1 (by decide)
      have k6 := g7 2 (by decide)
      have k7 := g7 3 (by decide)
      simp only [Nat.add_zero, Nat.reduceAdd] at k0 k1 k2 k3 k4 k5 k6 k7
      clear hb g3 g7 f0 f1
      have hN := HF.out (fun h => hp h.1)
      subst hN
      clear z1 z2 E1 E2
      go_wp2
      go_ret
      exact ⟨rfl, HB2.out⟩
set_option maxHeartbeats 4000000 in
set_option maxRecDepth 100000 in
theorem check_ok (n : NdS) (w : World) (h : PRd w n.v n.pts) (hl : n.pts.length ≤ 140737488355328) : Calls Try.prog 125 #[nv n] w fun e w' => e = .returned (.int .i64 (if mayB n then 0 else 9)) ∧ Below w.heap.size w w' := by
  have q1 := alloc_at (w := w) (.cells (ncells n) 159) rfl
  have HB := Lib.hid (below_alloc1 w (.cells (ncells n) 159))
  have HX := Lib.hid (nd_cells q1)
  have hm := may_ok n (w.alloc (.cells (ncells n) 159)) (h.below HB.out) hl
  obtain ⟨B, hB⟩ : ∃ b, mayB n = b := ⟨_, rfl⟩
  rw [hB] at hm ⊢
  have HM := Lib.hid hm
  clear q1 h hm hB
  obtain ⟨lf, v, pts, next, ks, cs⟩ := n
  simp only at HX HM
  have f0 := HX.out.1
  have f1 := HX.out.2.1
  have f2 := HX.out.2.2.1
  have k0 := HX.out.2.2.2.1 0 (by decide)
  have k1 := HX.out.2.2.2.1 1 (by decide)
  have k2 := HX.out.2.2.2.1 2 (by decide)
  have k3 := HX.out.2.2.2.1 3 (by decide)
  have k4 := HX.out.2.2.2.2 0 (by decide)
  have k5 := HX.out.2.2.2.2 1 (by decide)
  have k6 := HX.out.2.2.2.2 2 (by decide)
  have k7 := HX.out.2.2.2.2 3 (by decide)
  simp only [Nat.add_zero, Nat.reduceAdd] at k0 k1 k2 k3 k4 k5 k6 k7
  go_enter Try.func125, Try.ntmps125
  go_wp2_with fail
  clear f0 f1 f2 k0 k1 k2 k3 k4 k5 k6 k7 HX
  generalize World.alloc w _ = w1 at *
  (with_reducible refine HM.out.mono ?_); rintro e w2 ⟨rfl, hb⟩
  have HB2 := Lib.hid (below_up HB.out hb)
  clear hb
  cases B
  · go_wp2
    go_ret
    exact ⟨rfl, HB2.out⟩
  · go_wp2
    go_ret
    exact ⟨rfl, HB2.out⟩
end Go.Proofs.Ytjhhknkhgilecaa.Nd
