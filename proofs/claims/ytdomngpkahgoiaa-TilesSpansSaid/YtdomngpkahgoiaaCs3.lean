/- The walk over slices.swapRangeCmpFunc, slices.rotateCmpFunc. -/
import Derived.Test.YtdomngpkahgoiaaCs2
namespace Go.Proofs.Ytdomngpkahgoiaa.StC
open Go.RowKit Rg Ti St
set_option linter.unusedVariables false
set_option linter.unusedSimpArgs false
/-- The row is f's. -/
abbrev RowF (W : World) (base g N cap : Nat) (f : Row (CeS × Nat)) : Prop := W.ownsRow base 32 3 (.slice (some ⟨g, 0, none⟩) N cap) N ((lst N f).flatMap CeS.cells)
theorem row_at {W : World} {base g N cap : Nat} {f : Row (CeS × Nat)} (h : RowF W base g N cap f) {k : Nat} (hk : k < N) :
    (W.cell? ⟨g, k * 3, none⟩ = some (.int .u32 ((f k).1.x : Nat)) ∧ W.cell? ⟨g, k * 3 + 1, none⟩ = some (.int .u32 ((f k).1.y : Nat)) ∧ W.cell? ⟨g, k * 3 + 2, none⟩ = some (.int .i64 (f k).1.l)) ∧ ∀ j, W.frozen? ⟨g, j, none⟩ = false := by
  have := own_at4 h k (by rw [lst_len]; exact hk)
  rwa [lst_get] at this
theorem row_set {W : World} {base g N cap : Nat} {f : Row (CeS × Nat)} (h : RowF W base g N cap f) {i j : Nat} (hi : i < N) (hj : j < N) : RowF (set4 (set4 W g i (f j).1) g j (f i).1) base g N cap (sw f i j) := by
  have h1 := own_set4 (own_set4 h i (by rw [lst_len]; exact hi) (f j).1) j (by rw [List.length_set, lst_len]; exact hj) (f i).1
  rw [lst_sw f hi hj] at h1
  exact h1
theorem row_set1 {W : World} {base g N cap : Nat} {f : Row (CeS × Nat)} (h : RowF W base g N cap f) {i : Nat} (hi : i < N) (x : CeS) : RowF (set4 W g i x) base g N cap (fun k => if k = i then (x, 0) else f k) := by
  have h1 := own_set4 h i (by rw [lst_len]; exact hi) x
  have e : (lst N f).set i x = lst N (fun k => if k = i then (x, 0) else f k) := by
    refine List.ext_getElem (by simp [lst]) fun k h2 h3 => ?_
    rw [lst_get, List.getElem_set]
    by_cases c : i = k
    · rw [if_pos c, if_pos c.symm]
    · rw [if_neg c, if_neg (fun e => c e.symm), lst_get]
  rw [e] at h1
  exact h1
theorem fr_sw (W : World) (g i j : Nat) (x y : CeS) : Fr (fun k => k = g) W (set4 (set4 W g i x) g j y) := (fr_set4 W g i x).trans (fr_set4 _ g j y) (fun _ _ h => h)
set_option maxHeartbeats 4000000 in
set_option maxRecDepth 100000 in
theorem swapR_ok {base g N cap : Nat} (hN : N ≤ 4398046511104) (vf : Value) (W : World) (f : Row (CeS × Nat)) (h : RowF W base g N cap f) (a b n : Nat) (hab : a + n ≤ b ∨ b + n ≤ a) (ha : a + n ≤ N) (hb : b + n ≤ N) :
    Calls Try.prog 95 #[.slice (some ⟨g, 0, none⟩) N cap, .int .i64 a, .int .i64 b, .int .i64 n, vf] W fun e w' => e = .returned (.tuple #[]) ∧ RowF w' base g N cap (swR f a b n) ∧ Fr (fun k => k = g) W w' := by
  have HH := Lib.hid h
  clear h
  go_enter Try.func95, Try.ntmps95
  go_wp2_with fail
  go_loopw [10] (fun vi W' => ∃ i : Nat, vi = .int .i64 i ∧ i ≤ n ∧ RowF W' base g N cap (swR f a b i) ∧ Fr (fun k => k = g) W W') (fun vi _ => n - (intOf vi).toNat)
  case atStart => exact ⟨0, rfl, Nat.zero_le _, by rw [swR_zero]; exact HH.out, Fr.refl _ _⟩
  case round =>
  obtain ⟨i, rfl, hi, hR, hF⟩ := hrel
  have HR := Lib.hid hR
  have HF := Lib.hid hF
  clear hR hF
  by_cases hlt : i < n
  · have d : decide (i < n) = true := decide_eq_true hlt
    have di : decide ((i : Int) < n) = true := decide_eq_true (by omega)
    have ka : IntKind.i64.wrap ((a : Int) + i) = ((a + i : Nat) : Int) := by rw [IntWalk.i64_in _ (by omega)]; omega
    have kb : IntKind.i64.wrap ((b : Int) + i) = ((b + i : Nat) : Int) := by rw [IntWalk.i64_in _ (by omega)]; omega
    obtain ⟨A, hA⟩ : ∃ x, a + i = x := ⟨_, rfl⟩
    obtain ⟨B, hB⟩ : ∃ x, b + i = x := ⟨_, rfl⟩
    have ka2 : (a : Int) + i = (A : Int) := by omega
    have kb2 : (b : Int) + i = (B : Int) := by omega
    rw [hA] at ka
    rw [hB] at kb
    have kA0 : IntKind.i64.wrap (A : Int) = (A : Int) := by rw [IntWalk.i64_in _ (by omega)]
    have kB0 : IntKind.i64.wrap (B : Int) = (B : Int) := by rw [IntWalk.i64_in _ (by omega)]
    have bA : (A : Int) < N := by omega
    have bB : (B : Int) < N := by omega
    have HS := Lib.hid (swR_succ f (i := a) (j := b) (n := i) (by omega))
    have HAB := Lib.hid (And.intro hA hB)
    clear hA hB
    go_upto_region 3 with (fail)
    have hd := below_drew1 (w := wr)
    have HR1 := Lib.hid (own_below HR.out hd)
    have HF1 := Lib.hid (HF.out.below hd)
    clear hd
    obtain ⟨fa, hfz⟩ := row_at HR1.out (k := A) (by omega)
    obtain ⟨fb, _⟩ := row_at HR1.out (k := B) (by omega)
    obtain ⟨x, hx⟩ : ∃ x, (swR f a b i A).1 = x := ⟨_, rfl⟩
    obtain ⟨y, hy⟩ : ∃ y, (swR f a b i B).1 = y := ⟨_, rfl⟩
    rw [hx] at fa
    rw [hy] at fb
    have HXY := Lib.hid (And.intro hx hy)
    clear hx hy
    refine beginS (S := fun W => (W.cell? ⟨g, A * 3, none⟩ = some (.int .u32 (x.x : Nat)) ∧ W.cell? ⟨g, A * 3 + 1, none⟩ = some (.int .u32 (x.y : Nat)) ∧ W.cell? ⟨g, A * 3 + 2, none⟩ = some (.int .i64 x.l)) ∧ (W.cell? ⟨g, B * 3, none⟩ = some (.int .u32 (y.x : Nat)) ∧ W.cell? ⟨g, B * 3 + 1, none⟩ = some (.int .u32 (y.y : Nat)) ∧ W.cell? ⟨g, B * 3 + 2, none⟩ = some (.int .i64 y.l))) [21, 23] (by kernel_rfl) ⟨fa, fb⟩ (fun hHeld0 => ?_)
    generalize (World.drew wr) = W0 at *
    clear fb
    refine takeF (i := 0) (v := ?_) rfl (by kernel_rfl) (fun _ _ _ h => h) (Or.inl ⟨by kernel_rfl, ?_⟩) (by assumption) ?_; rotate_left; (focus (intro w _; go_simp; (try with_reducible rfl); done)); (try simp only [Act.put, List.getElem_toArray, List.getElem_cons_succ, List.getElem_cons_zero, List.setIfInBounds_toArray, List.set_cons_zero, List.set_cons_succ])
    refine takeF (i := 1) (v := ?_) rfl (by kernel_rfl) (fun _ _ _ h => h) (Or.inl ⟨by kernel_rfl, ?_⟩) (by assumption) ?_; rotate_left; (focus (intro w _; go_simp; (try with_reducible rfl); done)); (try simp only [Act.put, List.getElem_toArray, List.getElem_cons_succ, List.getElem_cons_zero, List.setIfInBounds_toArray, List.set_cons_zero, List.set_cons_succ])
    refine takeF (i := 2) (v := ?_) rfl (by kernel_rfl) (fun _ _ _ h => h) (Or.inl ⟨by kernel_rfl, ?_⟩) (by assumption) ?_; rotate_left; (focus (intro w _; go_simp; (try with_reducible rfl); done)); (try simp only [Act.put, List.getElem_toArray, List.getElem_cons_succ, List.getElem_cons_zero, List.setIfInBounds_toArray, List.set_cons_zero, List.set_cons_succ])
    refine takeF (i := 3) (v := ?_) rfl (by kernel_rfl) (fun _ _ _ h => h) (Or.inl ⟨by kernel_rfl, ?_⟩) (by assumption) ?_; rotate_left; (focus (intro w _; go_simp; (try with_reducible rfl); done)); (try simp only [Act.put, List.getElem_toArray, List.getElem_cons_succ, List.getElem_cons_zero, List.setIfInBounds_toArray, List.set_cons_zero, List.set_cons_succ])
    refine takeF (i := 4) (v := ?_) rfl (by kernel_rfl) (fun _ _ _ h => h) (Or.inl ⟨by kernel_rfl, ?_⟩) (by assumption) ?_; rotate_left; (focus (intro w _; go_simp; (try with_reducible rfl); done)); (try simp only [Act.put, List.getElem_toArray, List.getElem_cons_succ, List.getElem_cons_zero, List.setIfInBounds_toArray, List.set_cons_zero, List.set_cons_succ])
    refine takeF (i := 5) (v := ?_) rfl (by kernel_rfl) (fun _ _ _ h => h) (Or.inl ⟨by kernel_rfl, ?_⟩) (by assumption) ?_; rotate_left; (focus (intro w _; go_simp; (try with_reducible rfl); done)); (try simp only [Act.put, List.getElem_toArray, List.getElem_cons_succ, List.getElem_cons_zero, List.setIfInBounds_toArray, List.set_cons_zero, List.set_cons_succ])
    refine takeF (i := 6) (v := ?_) rfl (by kernel_rfl) (fun _ _ _ h => h) (Or.inl ⟨by kernel_rfl, ?_⟩) (by assumption) ?_; rotate_left; (focus (intro w _; go_simp; (try with_reducible rfl); done)); (try simp only [Act.put, List.getElem_toArray, List.getElem_cons_succ, List.getElem_cons_zero, List.setIfInBounds_toArray, List.set_cons_zero, List.set_cons_succ])
    refine takeF (i := 7) (v := ?_) rfl (by kernel_rfl) (fun _ _ _ h => h) (Or.inl ⟨by kernel_rfl, ?_⟩) (by assumption) ?_; rotate_left; (focus (intro w _; go_simp; (try with_reducible rfl); done)); (try simp only [Act.put, List.getElem_toArray, List.getElem_cons_succ, List.getElem_cons_zero, List.setIfInBounds_toArray, List.set_cons_zero, List.set_cons_succ])
    refine takeF (i := 8) (v := ?_) rfl (by kernel_rfl) (fun _ _ _ h => h) (Or.inl ⟨by kernel_rfl, ?_⟩) (by assumption) ?_; rotate_left; (focus (intro w _; go_simp; (try with_reducible rfl); done)); (try simp only [Act.put, List.getElem_toArray, List.getElem_cons_succ, List.getElem_cons_zero, List.setIfInBounds_toArray, List.set_cons_zero, List.set_cons_succ])
    refine takeF (i := 9) (v := ?_) rfl (by kernel_rfl) (fun _ _ _ h => h) (Or.inl ⟨by kernel_rfl, ?_⟩) (by assumption) ?_; rotate_left; (focus (intro w _; go_simp; (try with_reducible rfl); done)); (try simp only [Act.put, List.getElem_toArray, List.getElem_cons_succ, List.getElem_cons_zero, List.setIfInBounds_toArray, List.set_cons_zero, List.set_cons_succ])
    refine takeF (i := 10) (v := ?_) rfl (by kernel_rfl) (fun _ _ _ h => h) (Or.inl ⟨by kernel_rfl, ?_⟩) (by assumption) ?_; rotate_left; (focus (intro w _; go_simp; (try with_reducible rfl); done)); (try simp only [Act.put, List.getElem_toArray, List.getElem_cons_succ, List.getElem_cons_zero, List.setIfInBounds_toArray, List.set_cons_zero, List.set_cons_succ])
    refine takeF (i := 11) (v := ?_) rfl (by kernel_rfl) (fun _ _ _ h => h) (Or.inl ⟨by kernel_rfl, ?_⟩) (by assumption) ?_; rotate_left; (focus (intro w _; go_simp; (try with_reducible rfl); done)); (try simp only [Act.put, List.getElem_toArray, List.getElem_cons_succ, List.getElem_cons_zero, List.setIfInBounds_toArray, List.set_cons_zero, List.set_cons_succ])
    refine takeF (i := 12) (v := ?_) rfl (by kernel_rfl) (fun _ _ _ h => h) (Or.inl ⟨by kernel_rfl, ?_⟩) (by assumption) ?_; rotate_left; (focus (intro w _; go_simp; (try with_reducible rfl); done)); (try simp only [Act.put, List.getElem_toArray, List.getElem_cons_succ, List.getElem_cons_zero, List.setIfInBounds_toArray, List.set_cons_zero, List.set_cons_succ])
    refine takeH (i := 13) (v := ?_) rfl (by kernel_rfl) (fun _ _ _ h => h) (Or.inl ⟨by kernel_rfl, ?_⟩) (by assumption) ?_; rotate_left; (focus (intro w hSw; (try dsimp only at hSw); go_simp; (try with_reducible rfl); done)); (try simp only [Act.put, List.getElem_toArray, List.getElem_cons_succ, List.getElem_cons_zero, List.setIfInBounds_toArray, List.set_cons_zero, List.set_cons_succ])
    refine takeF (i := 14) (v := ?_) rfl (by kernel_rfl) (fun _ _ _ h => h) (Or.inl ⟨by kernel_rfl, ?_⟩) (by assumption) ?_; rotate_left; (focus (intro w _; go_simp; (try with_reducible rfl); done)); (try simp only [Act.put, List.getElem_toArray, List.getElem_cons_succ, List.getElem_cons_zero, List.setIfInBounds_toArray, List.set_cons_zero, List.set_cons_succ])
    refine takeF (i := 15) (v := ?_) rfl (by kernel_rfl) (fun _ _ _ h => h) (Or.inl ⟨by kernel_rfl, ?_⟩) (by assumption) ?_; rotate_left; (focus (intro w _; go_simp; (try with_reducible rfl); done)); (try simp only [Act.put, List.getElem_toArray, List.getElem_cons_succ, List.getElem_cons_zero, List.setIfInBounds_toArray, List.set_cons_zero, List.set_cons_succ])
    refine takeF (i := 16) (v := ?_) rfl (by kernel_rfl) (fun _ _ _ h => h) (Or.inl ⟨by kernel_rfl, ?_⟩) (by assumption) ?_; rotate_left; (focus (intro w _; go_simp; (try with_reducible rfl); done)); (try simp only [Act.put, List.getElem_toArray, List.getElem_cons_succ, List.getElem_cons_zero, List.setIfInBounds_toArray, List.set_cons_zero, List.set_cons_succ])
    refine takeF (i := 17) (v := ?_) rfl (by kernel_rfl) (fun _ _ _ h => h) (Or.inl ⟨by kernel_rfl, ?_⟩) (by assumption) ?_; rotate_left; (focus (intro w _; go_simp; (try with_reducible rfl); done)); (try simp only [Act.put, List.getElem_toArray, List.getElem_cons_succ, List.getElem_cons_zero, List.setIfInBounds_toArray, List.set_cons_zero, List.set_cons_succ])
    refine takeF (i := 18) (v := ?_) rfl (by kernel_rfl) (fun _ _ _ h => h) (Or.inl ⟨by kernel_rfl, ?_⟩) (by assumption) ?_; rotate_left; (focus (intro w _; go_simp; (try with_reducible rfl); done)); (try simp only [Act.put, List.getElem_toArray, List.getElem_cons_succ, List.getElem_cons_zero, List.setIfInBounds_toArray, List.set_cons_zero, List.set_cons_succ])
    refine takeH (i := 19) (v := ?_) rfl (by kernel_rfl) (fun _ _ _ h => h) (Or.inl ⟨by kernel_rfl, ?_⟩) (by assumption) ?_; rotate_left; (focus (intro w hSw; (try dsimp only at hSw); go_simp; (try with_reducible rfl); done)); (try simp only [Act.put, List.getElem_toArray, List.getElem_cons_succ, List.getElem_cons_zero, List.setIfInBounds_toArray, List.set_cons_zero, List.set_cons_succ])
    refine takeF (i := 20) (v := ?_) rfl (by kernel_rfl) (fun _ _ _ h => h) (Or.inl ⟨by kernel_rfl, ?_⟩) (by assumption) ?_; rotate_left; (focus (intro w _; go_simp; (try with_reducible rfl); done)); (try simp only [Act.put, List.getElem_toArray, List.getElem_cons_succ, List.getElem_cons_zero, List.setIfInBounds_toArray, List.set_cons_zero, List.set_cons_succ])
    clear hHeld0
    refine readyS (rs := [21]) (by kernel_rfl) (by simp) ?_
    refine ReadyS.consP rfl (by kernel_rfl) (fun K hK => ?_) ReadyS.nil
    (try simp only [List.getElem_toArray, List.getElem_cons_succ, List.getElem_cons_zero])
    go_simp
    have H1 := Lib.hid (row_set1 HR1.out (i := A) (by have := HAB.out; omega) y)
    refine hK.out _ (set4 W0 g A y) ?_
    clear hK K
    obtain ⟨fb, hfz1⟩ := row_at H1.out (k := B) (by have := HAB.out; omega)
    have HR2 := Lib.hid (row_set HR1.out (i := A) (j := B) (by have := HAB.out; omega) (by have := HAB.out; omega))
    rw [HXY.out.1, HXY.out.2] at HR2
    have HF2 := Lib.hid (HF1.out.trans (fr_sw W0 g A B y x) (fun _ _ h => h))
    have HE := Lib.hid (show sw (swR f a b i) A B = swR f a b (i + 1) by rw [← HAB.out.1, ← HAB.out.2]; exact HS.out)
    rw [HE.out] at HR2
    replace HF2 : Hid (Fr (fun k => k = g) W (set4 (set4 W0 g A y) g B x)) := HF2
    generalize hW1 : set4 W0 g A y = W1 at *
    clear fa hfz hW1
    refine takeP (i := 22) (v := ?_) rfl (by kernel_rfl) (fun _ _ _ h => h) (Or.inl ⟨by kernel_rfl, ?_⟩) ?_; rotate_left; (focus (intro w _; go_simp; (try with_reducible rfl); done)); (try simp only [Act.put, List.getElem_toArray, List.getElem_cons_succ, List.getElem_cons_zero, List.setIfInBounds_toArray, List.set_cons_zero, List.set_cons_succ])
    refine readyS (rs := [23]) (by kernel_rfl) (by simp) ?_
    refine ReadyS.consP rfl (by kernel_rfl) (fun K hK => ?_) ReadyS.nil
    (try simp only [List.getElem_toArray, List.getElem_cons_succ, List.getElem_cons_zero])
    go_simp
    refine hK.out _ (set4 W1 g B x) ?_
    clear hK K
    generalize set4 W1 g B x = W2 at *
    clear fb hfz1
    refine doneS (by kernel_rfl) ?_ _
    go_wp2
    exact ⟨⟨i + 1, by go_num, by omega, HR2.out, HF2.out⟩, by simp [intOf]; omega⟩
  · obtain rfl : i = n := by omega
    have d : decide (i < i) = false := decide_eq_false (by omega)
    have di : decide ((i : Int) < i) = false := decide_eq_false (by omega)
    go_wp2
    go_end0
    exact ⟨rfl, HR.out, HF.out⟩
end Go.Proofs.Ytdomngpkahgoiaa.StC
