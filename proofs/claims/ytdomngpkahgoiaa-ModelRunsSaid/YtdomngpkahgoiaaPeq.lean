/- The walk over slices.Equal of points. -/
import Derived.Test.YtdomngpkahgoiaaPtEq
import Derived.Deep.DeepCutAuto
namespace Go.Proofs.Ytdomngpkahgoiaa.St
open Go.RowKit Pt Rg
set_option linter.unusedVariables false
set_option linter.unusedSimpArgs false
noncomputable def eqL (a b : List PtS) : Bool := @decide (a = b) (Classical.propDecidable _)
theorem eqL_t {a b : List PtS} (h : a = b) : eqL a b = true := by unfold eqL; exact @decide_eq_true _ (Classical.propDecidable _) h
theorem eqL_f {a b : List PtS} (h : ¬ a = b) : eqL a b = false := by unfold eqL; exact @decide_eq_false _ (Classical.propDecidable _) h
theorem list_eq {a b : List PtS} (hl : a.length = b.length) (h : ∀ i (h1 : i < a.length) (h2 : i < b.length), i < a.length → a[i] = b[i]) : a = b := List.ext_getElem hl (fun i h1 h2 => h i h1 h2 h1)
set_option maxHeartbeats 4000000 in
set_option maxRecDepth 100000 in
theorem equal_ok (v1 v2 : Value) (l1 l2 : List PtS) (w : World) (h1 : PRow w v1 l1) (h2 : PRow w v2 l2) (b1 : l1.length ≤ 140737488355328) (b2 : l2.length ≤ 140737488355328) :
    Calls Try.prog 72 #[v1, v2] w fun e w' => e = .returned (.bool (eqL l1 l2)) ∧ Below w.heap.size w w' := by
  have HV := Lib.hid (And.intro h1 h2)
  obtain ⟨A1, c1, rfl, _, _⟩ := h1
  obtain ⟨A2, c2, rfl, _, _⟩ := h2
  obtain ⟨R, hR⟩ : ∃ r, eqL l1 l2 = r := ⟨_, rfl⟩
  have HF : Hid (¬ l1 = l2 → R = false) := Lib.hid (fun h => by rw [← hR]; exact eqL_f h)
  have HT : Hid (l1 = l2 → R = true) := Lib.hid (fun h => by rw [← hR]; exact eqL_t h)
  rw [hR]
  clear hR
  by_cases hl : l1.length = l2.length
  · have HL := Lib.hid hl
    have e1 : ((l1.length : Int) != l2.length) = false := by rw [bne_eq_false_iff_eq]; omega
    have e2 : (l1.length != l2.length) = false := by rw [bne_eq_false_iff_eq]; exact hl
    clear hl
    go_enter Try.func72, Try.ntmps72
    go_wp2_with fail
    clear e1 e2
    go_loopw [13] (fun vj W => ∃ j : Nat, vj = .int .i64 j ∧ j ≤ l1.length ∧ (∀ i (h1 : i < l1.length) (h2 : i < l2.length), i < j → l1[i] = l2[i]) ∧ Below w.heap.size w W) (fun vj _ => l1.length - (intOf vj).toNat)
    case atStart => exact ⟨0, rfl, Nat.zero_le _, fun i _ _ h => absurd h (Nat.not_lt_zero i), Below.refl _ _⟩
    case round =>
    obtain ⟨j, rfl, hj, hP, hB⟩ := hrel
    have HP := Lib.hid hP; have HB := Lib.hid hB
    clear hP hB
    by_cases hjl : j < l1.length
    · have dj : decide (j < l1.length) = true := decide_eq_true hjl
      have bj : (j : Int) < l1.length := by omega
      have hj2 : j < l2.length := by have := HL.out; omega
      have bj2 : (j : Int) < l2.length := by omega
      have HD := Lib.hid (below_up HB.out (below_drew1 (w := wr)))
      obtain ⟨g1, o1, rfl, f1⟩ := p_at (HV.out.1.below HD.out) hjl
      obtain ⟨g2, o2, rfl, f2⟩ := p_at (HV.out.2.below HD.out) hj2
      have HN : Hid (¬ l1[j] = l2[j] → ¬ l1 = l2) := Lib.hid (fun h e => by subst e; exact h rfl)
      have HY : Hid (l1[j] = l2[j] → ∀ i (h1 : i < l1.length) (h2 : i < l2.length), i < j + 1 → l1[i] = l2[i]) := Lib.hid (fun h i h1 h2 hi => by
        rcases Nat.lt_or_ge i j with h3 | h3
        · exact HP.out i h1 h2 h3
        · obtain rfl : i = j := by omega
          exact h)
      have hn := neqPt l1[j] l2[j]
      have hq := eqPt_iff l1[j] l2[j]
      generalize l1[j] = x at *
      generalize l2[j] = y at *
      go_upto_region 6 with (fail)
      by_cases hxy : x = y
      · have hE := Lib.hid (HY.out hxy)
        have hb := hq.2 hxy
        simp only [hb] at hn
        clear hq hb
        refine beginS (S := fun W' => (W'.cell? ⟨g1, o1 + j * 4, none⟩ = some (.int .i64 x.id) ∧ W'.cell? ⟨g1, o1 + j * 4 + 1, none⟩ = some (.int .u32 (x.x : Nat)) ∧ W'.cell? ⟨g1, o1 + j * 4 + 2, none⟩ = some (.int .u32 (x.y : Nat)) ∧ W'.cell? ⟨g1, o1 + j * 4 + 3, none⟩ = some (.string x.d)) ∧ (W'.cell? ⟨g2, o2 + j * 4, none⟩ = some (.int .i64 y.id) ∧ W'.cell? ⟨g2, o2 + j * 4 + 1, none⟩ = some (.int .u32 (y.x : Nat)) ∧ W'.cell? ⟨g2, o2 + j * 4 + 2, none⟩ = some (.int .u32 (y.y : Nat)) ∧ W'.cell? ⟨g2, o2 + j * 4 + 3, none⟩ = some (.string y.d))) [] (by kernel_rfl) ⟨f1, f2⟩ (fun hHeld0 => ?_)
        clear f1 f2 hxy
        generalize (World.drew wr) = W0 at *
        refine takeF (i := 0) (v := ?_) rfl (by kernel_rfl) (fun _ _ _ h => h) (Or.inl ⟨by kernel_rfl, ?_⟩) (by assumption) ?_; rotate_left; (focus (intro w _; go_simp; (try with_reducible rfl); done)); (try simp only [Act.put, List.getElem_toArray, List.getElem_cons_succ, List.getElem_cons_zero, List.setIfInBounds_toArray, List.set_cons_zero, List.set_cons_succ])
        refine takeF (i := 1) (v := ?_) rfl (by kernel_rfl) (fun _ _ _ h => h) (Or.inl ⟨by kernel_rfl, ?_⟩) (by assumption) ?_; rotate_left; (focus (intro w _; go_simp; (try with_reducible rfl); done)); (try simp only [Act.put, List.getElem_toArray, List.getElem_cons_succ, List.getElem_cons_zero, List.setIfInBounds_toArray, List.set_cons_zero, List.set_cons_succ])
        refine takeF (i := 2) (v := ?_) rfl (by kernel_rfl) (fun _ _ _ h => h) (Or.inl ⟨by kernel_rfl, ?_⟩) (by assumption) ?_; rotate_left; (focus (intro w _; go_simp; (try with_reducible rfl); done)); (try simp only [Act.put, List.getElem_toArray, List.getElem_cons_succ, List.getElem_cons_zero, List.setIfInBounds_toArray, List.set_cons_zero, List.set_cons_succ])
        refine takeH (i := 3) (v := ?_) rfl (by kernel_rfl) (fun _ _ _ h => h) (Or.inl ⟨by kernel_rfl, ?_⟩) (by assumption) ?_; rotate_left; (focus (intro w hSw; (try dsimp only at hSw); go_simp; (try with_reducible rfl); done)); (try simp only [Act.put, List.getElem_toArray, List.getElem_cons_succ, List.getElem_cons_zero, List.setIfInBounds_toArray, List.set_cons_zero, List.set_cons_succ])
        refine takeF (i := 4) (v := ?_) rfl (by kernel_rfl) (fun _ _ _ h => h) (Or.inl ⟨by kernel_rfl, ?_⟩) (by assumption) ?_; rotate_left; (focus (intro w _; go_simp; (try with_reducible rfl); done)); (try simp only [Act.put, List.getElem_toArray, List.getElem_cons_succ, List.getElem_cons_zero, List.setIfInBounds_toArray, List.set_cons_zero, List.set_cons_succ])
        refine takeF (i := 5) (v := ?_) rfl (by kernel_rfl) (fun _ _ _ h => h) (Or.inl ⟨by kernel_rfl, ?_⟩) (by assumption) ?_; rotate_left; (focus (intro w _; go_simp; (try with_reducible rfl); done)); (try simp only [Act.put, List.getElem_toArray, List.getElem_cons_succ, List.getElem_cons_zero, List.setIfInBounds_toArray, List.set_cons_zero, List.set_cons_succ])
        refine takeF (i := 6) (v := ?_) rfl (by kernel_rfl) (fun _ _ _ h => h) (Or.inl ⟨by kernel_rfl, ?_⟩) (by assumption) ?_; rotate_left; (focus (intro w _; go_simp; (try with_reducible rfl); done)); (try simp only [Act.put, List.getElem_toArray, List.getElem_cons_succ, List.getElem_cons_zero, List.setIfInBounds_toArray, List.set_cons_zero, List.set_cons_succ])
        refine takeH (i := 7) (v := ?_) rfl (by kernel_rfl) (fun _ _ _ h => h) (Or.inl ⟨by kernel_rfl, ?_⟩) (by assumption) ?_; rotate_left; (focus (intro w hSw; (try dsimp only at hSw); go_simp; (try with_reducible rfl); done)); (try simp only [Act.put, List.getElem_toArray, List.getElem_cons_succ, List.getElem_cons_zero, List.setIfInBounds_toArray, List.set_cons_zero, List.set_cons_succ])
        refine takeF (i := 8) (v := ?_) rfl (by kernel_rfl) (fun _ _ _ h => h) (Or.inl ⟨by kernel_rfl, ?_⟩) (by assumption) ?_; rotate_left; (focus (intro w _; go_simp; (try with_reducible rfl); done)); (try simp only [Act.put, List.getElem_toArray, List.getElem_cons_succ, List.getElem_cons_zero, List.setIfInBounds_toArray, List.set_cons_zero, List.set_cons_succ])
        clear hHeld0 hn
        refine doneS (by kernel_rfl) ?_ _
        go_wp2
        exact ⟨⟨j + 1, by go_num, by omega, hE.out, HD.out⟩, by simp [intOf]; omega⟩
      · have hN := HF.out (HN.out hxy)
        subst hN
        have hb : eqPt x y = false := by
          cases h : eqPt x y
          · rfl
          · exact absurd (hq.1 h) hxy
        simp only [hb] at hn
        clear hq hb
        refine beginS (S := fun W' => (W'.cell? ⟨g1, o1 + j * 4, none⟩ = some (.int .i64 x.id) ∧ W'.cell? ⟨g1, o1 + j * 4 + 1, none⟩ = some (.int .u32 (x.x : Nat)) ∧ W'.cell? ⟨g1, o1 + j * 4 + 2, none⟩ = some (.int .u32 (x.y : Nat)) ∧ W'.cell? ⟨g1, o1 + j * 4 + 3, none⟩ = some (.string x.d)) ∧ (W'.cell? ⟨g2, o2 + j * 4, none⟩ = some (.int .i64 y.id) ∧ W'.cell? ⟨g2, o2 + j * 4 + 1, none⟩ = some (.int .u32 (y.x : Nat)) ∧ W'.cell? ⟨g2, o2 + j * 4 + 2, none⟩ = some (.int .u32 (y.y : Nat)) ∧ W'.cell? ⟨g2, o2 + j * 4 + 3, none⟩ = some (.string y.d))) [] (by kernel_rfl) ⟨f1, f2⟩ (fun hHeld0 => ?_)
        clear f1 f2 hxy
        generalize (World.drew wr) = W0 at *
        refine takeF (i := 0) (v := ?_) rfl (by kernel_rfl) (fun _ _ _ h => h) (Or.inl ⟨by kernel_rfl, ?_⟩) (by assumption) ?_; rotate_left; (focus (intro w _; go_simp; (try with_reducible rfl); done)); (try simp only [Act.put, List.getElem_toArray, List.getElem_cons_succ, List.getElem_cons_zero, List.setIfInBounds_toArray, List.set_cons_zero, List.set_cons_succ])
        refine takeF (i := 1) (v := ?_) rfl (by kernel_rfl) (fun _ _ _ h => h) (Or.inl ⟨by kernel_rfl, ?_⟩) (by assumption) ?_; rotate_left; (focus (intro w _; go_simp; (try with_reducible rfl); done)); (try simp only [Act.put, List.getElem_toArray, List.getElem_cons_succ, List.getElem_cons_zero, List.setIfInBounds_toArray, List.set_cons_zero, List.set_cons_succ])
        refine takeF (i := 2) (v := ?_) rfl (by kernel_rfl) (fun _ _ _ h => h) (Or.inl ⟨by kernel_rfl, ?_⟩) (by assumption) ?_; rotate_left; (focus (intro w _; go_simp; (try with_reducible rfl); done)); (try simp only [Act.put, List.getElem_toArray, List.getElem_cons_succ, List.getElem_cons_zero, List.setIfInBounds_toArray, List.set_cons_zero, List.set_cons_succ])
        refine takeH (i := 3) (v := ?_) rfl (by kernel_rfl) (fun _ _ _ h => h) (Or.inl ⟨by kernel_rfl, ?_⟩) (by assumption) ?_; rotate_left; (focus (intro w hSw; (try dsimp only at hSw); go_simp; (try with_reducible rfl); done)); (try simp only [Act.put, List.getElem_toArray, List.getElem_cons_succ, List.getElem_cons_zero, List.setIfInBounds_toArray, List.set_cons_zero, List.set_cons_succ])
        refine takeF (i := 4) (v := ?_) rfl (by kernel_rfl) (fun _ _ _ h => h) (Or.inl ⟨by kernel_rfl, ?_⟩) (by assumption) ?_; rotate_left; (focus (intro w _; go_simp; (try with_reducible rfl); done)); (try simp only [Act.put, List.getElem_toArray, List.getElem_cons_succ, List.getElem_cons_zero, List.setIfInBounds_toArray, List.set_cons_zero, List.set_cons_succ])
        refine takeF (i := 5) (v := ?_) rfl (by kernel_rfl) (fun _ _ _ h => h) (Or.inl ⟨by kernel_rfl, ?_⟩) (by assumption) ?_; rotate_left; (focus (intro w _; go_simp; (try with_reducible rfl); done)); (try simp only [Act.put, List.getElem_toArray, List.getElem_cons_succ, List.getElem_cons_zero, List.setIfInBounds_toArray, List.set_cons_zero, List.set_cons_succ])
        refine takeF (i := 6) (v := ?_) rfl (by kernel_rfl) (fun _ _ _ h => h) (Or.inl ⟨by kernel_rfl, ?_⟩) (by assumption) ?_; rotate_left; (focus (intro w _; go_simp; (try with_reducible rfl); done)); (try simp only [Act.put, List.getElem_toArray, List.getElem_cons_succ, List.getElem_cons_zero, List.setIfInBounds_toArray, List.set_cons_zero, List.set_cons_succ])
        refine takeH (i := 7) (v := ?_) rfl (by kernel_rfl) (fun _ _ _ h => h) (Or.inl ⟨by kernel_rfl, ?_⟩) (by assumption) ?_; rotate_left; (focus (intro w hSw; (try dsimp only at hSw); go_simp; (try with_reducible rfl); done)); (try simp only [Act.put, List.getElem_toArray, List.getElem_cons_succ, List.getElem_cons_zero, List.setIfInBounds_toArray, List.set_cons_zero, List.set_cons_succ])
        refine takeF (i := 8) (v := ?_) rfl (by kernel_rfl) (fun _ _ _ h => h) (Or.inl ⟨by kernel_rfl, ?_⟩) (by assumption) ?_; rotate_left; (focus (intro w _; go_simp; (try with_reducible rfl); done)); (try simp only [Act.put, List.getElem_toArray, List.getElem_cons_succ, List.getElem_cons_zero, List.setIfInBounds_toArray, List.set_cons_zero, List.set_cons_succ])
        clear hHeld0 hn
        refine doneS (by kernel_rfl) ?_ _
        go_wp2
        go_ret
        exact ⟨rfl, HD.out⟩
    · obtain rfl : j = l1.length := by omega
      have dj : decide (l1.length < l1.length) = false := decide_eq_false (by omega)
      have hT := HT.out (list_eq HL.out HP.out)
      subst hT
      go_wp2
      go_ret
      exact ⟨rfl, HB.out⟩
  · have e1 : ((l1.length : Int) != l2.length) = true := by rw [bne_iff_ne]; omega
    have e2 : (l1.length != l2.length) = true := by rw [bne_iff_ne]; exact hl
    have hN := HF.out (fun h => hl (by rw [h]))
    subst hN
    go_enter Try.func72, Try.ntmps72
    go_wp2
    go_ret
    exact ⟨rfl, Below.refl _ _⟩
end Go.Proofs.Ytdomngpkahgoiaa.St
