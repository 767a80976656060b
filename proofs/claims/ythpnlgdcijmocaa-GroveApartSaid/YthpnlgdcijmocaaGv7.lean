/- The walks over croftlaw22.alive, GroveNobody. -/
import Derived.Test.YthpnlgdcijmocaaGv6
namespace Go.Proofs.Ythpnlgdcijmocaa.Gv
open Go.RowKit Lt Pt Rg Nd Mp
set_option linter.unusedVariables false
set_option linter.unusedSimpArgs false
set_option maxHeartbeats 4000000 in
set_option maxRecDepth 100000 in
theorem alive_ok (W : World) : Calls Try.prog 20 #[] W fun e w' => e = .returned (.bool true) ∧ Below W.heap.size W w' := by
  go_enter Try.func20, Try.ntmps20
  go_wp2_with fail
  (with_reducible refine (new_ok W).mono ?_); rintro e w1 ⟨rfl, hp1, hm1, hb1⟩
  have hG : GvAt w1 (W.heap.size + 1) W.heap.size 0 (fun _ => none) := ⟨hp1, hm1, fun a x hx => by cases hx⟩
  have HG := Lib.hid hG
  have HB1 := Lib.hid hb1
  clear hp1 hm1 hb1 hG
  go_wp2_with fail
  (with_reducible refine (fresh_ok HG.out).mono ?_); rintro e w2 ⟨hf, hb⟩
  have he : e = .returned (.tuple #[.int .i64 1, .int .i64 0]) := by
    rcases hf with ⟨k, h1, h2, _, h4, he⟩ | ⟨h, _⟩
    · have : k = 1 := by
        rcases Nat.lt_or_ge 1 k with h5 | h5
        · have := h4 1 (by omega) h5
          cases this
        · omega
      subst this
      exact he
    · have := h 1 (by omega) (by omega)
      cases this
  subst he
  have HB2 := Lib.hid (below_up HB1.out hb)
  clear hf hb
  go_wp2
  go_ret
  exact ⟨rfl, HB2.out⟩
theorem nob_none (W : World) : Nob W (.pointer none) := Or.inl rfl
set_option maxHeartbeats 8000000 in
set_option maxRecDepth 100000 in
theorem gnobody_walk (id : Int) (x : NdS) (W : World) : Calls Try.prog 8 #[.int .i64 id, nv x] W fun e w' => e = .returned (.bool true) ∧ Below W.heap.size W w' := by
  obtain ⟨lf, v, pts, next, ks, cs⟩ := x
  have qb1 := below_alloc1 W (.cells (ncells ⟨lf, v, pts, next, ks, cs⟩) 49)
  have qX := alloc_at (w := W) (.cells (ncells ⟨lf, v, pts, next, ks, cs⟩) 49) rfl
  have hw1 : (W.alloc (.cells (ncells ⟨lf, v, pts, next, ks, cs⟩) 49)).heap.size = W.heap.size + 1 := by unfold World.alloc; simp
  generalize hW1 : W.alloc (.cells (ncells ⟨lf, v, pts, next, ks, cs⟩) 49) = W1 at *
  have qb2 := below_alloc1 W1 (.cells #[.map none] 75)
  have qG := alloc_at (w := W1) (n := W.heap.size + 1) (.cells #[.map none] 75) hw1.symm
  have hw2 : (W1.alloc (.cells #[.map none] 75)).heap.size = W.heap.size + 2 := by unfold World.alloc; simp; omega
  generalize hW2 : W1.alloc (.cells #[.map none] 75) = W2 at *
  have qb3 := below_alloc1 W2 (.cells #[.pointer none, .pointer (some ⟨W.heap.size + 1, 0, none⟩)] 50)
  have qL := alloc_at (w := W2) (n := W.heap.size + 2) (.cells #[.pointer none, .pointer (some ⟨W.heap.size + 1, 0, none⟩)] 50) hw2.symm
  have HL := Lib.hid qL
  have HG := Lib.hid (block_up qG qb3)
  have HX := Lib.hid (block_up (block_up qX qb2) qb3)
  have HB := Lib.hid (below_up (below_up qb1 qb2) qb3)
  subst hW2 hW1
  clear qb1 qX qb2 qG qb3 qL
  go_enter Try.func8, Try.ntmps8
  go_wp2_with fail
  generalize ((W.alloc _).alloc _).alloc _ = W3 at *
  go_loopw [7] (fun vi W' => ∃ i : Nat, vi = .int .i64 i ∧ i ≤ 2 ∧ Below W3.heap.size W3 W') (fun vi _ => 2 - (intOf vi).toNat)
  case atStart => exact ⟨0, rfl, by omega, Below.refl _ _⟩
  case round =>
  obtain ⟨i, rfl, hi, hb⟩ := hrel
  have HBr := Lib.hid hb
  clear hb
  by_cases hi2 : i < 2
  · have d1 : decide ((i : Int) < 2) = true := decide_eq_true (by omega)
    have bi : (i : Int) < 2 := by omega
    obtain ⟨u, hu, hnob⟩ : ∃ u, (∀ W', Below W3.heap.size W3 W' → W'.cell? ⟨W.heap.size + 2, i, none⟩ = some u) ∧ (∀ W', Below W3.heap.size W3 W' → Nob W' u) := by
      rcases (by omega : i = 0 ∨ i = 1) with rfl | rfl
      · exact ⟨.pointer none, fun W' h => by rw [cell_block (block_up HL.out h)]; rfl, fun W' h => .inl rfl⟩
      · exact ⟨.pointer (some ⟨W.heap.size + 1, 0, none⟩), fun W' h => by rw [cell_block (block_up HL.out h)]; rfl, fun W' h => .inr ⟨_, rfl, block_up HG.out h⟩⟩
    have HU := Lib.hid hu
    have HN := Lib.hid hnob
    clear hu hnob
    have c1 := HU.out _ HBr.out
    go_wp2_with fail
    clear c1
    (with_reducible refine (get_no (HN.out _ HBr.out) _).mono ?_); rintro e w1 ⟨rfl, hb⟩
    have HB1 := Lib.hid (below_up HBr.out hb); clear hb
    have HB2 := Lib.hid (below_alloc HB1.out (.cells zc 49))
    have c2 := HU.out _ HB2.out
    go_wp2_with fail
    generalize World.alloc w1 _ = w2 at *
    (with_reducible refine (fresh_no (HN.out _ HB2.out)).mono ?_); rintro e w3 ⟨rfl, rfl⟩
    go_upto_region 8 with (fail)
    clear c2
    have HQ : Hid (∀ W', Below W3.heap.size W3 W' → (W'.cell? ⟨W.heap.size + 2, i, none⟩ = some u) ∧ (W'.cell? ⟨W.heap.size, 0, none⟩ = some (.bool lf) ∧ W'.cell? ⟨W.heap.size, 1, none⟩ = some v ∧ W'.cell? ⟨W.heap.size, 2, none⟩ = some (.int .i64 next) ∧ W'.cell? ⟨W.heap.size, 3, none⟩ = some (.int .i64 (ks 0)) ∧ W'.cell? ⟨W.heap.size, 4, none⟩ = some (.int .i64 (ks 1)) ∧ W'.cell? ⟨W.heap.size, 5, none⟩ = some (.int .i64 (ks 2)) ∧ W'.cell? ⟨W.heap.size, 6, none⟩ = some (.int .i64 (ks 3)) ∧ W'.cell? ⟨W.heap.size, 7, none⟩ = some (.int .i64 (cs 0)) ∧ W'.cell? ⟨W.heap.size, 8, none⟩ = some (.int .i64 (cs 1)) ∧ W'.cell? ⟨W.heap.size, 9, none⟩ = some (.int .i64 (cs 2)) ∧ W'.cell? ⟨W.heap.size, 10, none⟩ = some (.int .i64 (cs 3))) ∧ Below W3.heap.size W3 W') := Lib.hid (fun W' hb => ⟨HU.out W' hb, nd_all (n := ⟨lf, v, pts, next, ks, cs⟩) (block_up HX.out hb), hb⟩)
    have hw0 : IntKind.i64.wrap (0 : Int) = 0 := by rw [IntKind.wrap_i64]; omega
    refine beginS (S := fun W' => (W'.cell? ⟨W.heap.size + 2, i, none⟩ = some u) ∧ (W'.cell? ⟨W.heap.size, 0, none⟩ = some (.bool lf) ∧ W'.cell? ⟨W.heap.size, 1, none⟩ = some v ∧ W'.cell? ⟨W.heap.size, 2, none⟩ = some (.int .i64 next) ∧ W'.cell? ⟨W.heap.size, 3, none⟩ = some (.int .i64 (ks 0)) ∧ W'.cell? ⟨W.heap.size, 4, none⟩ = some (.int .i64 (ks 1)) ∧ W'.cell? ⟨W.heap.size, 5, none⟩ = some (.int .i64 (ks 2)) ∧ W'.cell? ⟨W.heap.size, 6, none⟩ = some (.int .i64 (ks 3)) ∧ W'.cell? ⟨W.heap.size, 7, none⟩ = some (.int .i64 (cs 0)) ∧ W'.cell? ⟨W.heap.size, 8, none⟩ = some (.int .i64 (cs 1)) ∧ W'.cell? ⟨W.heap.size, 9, none⟩ = some (.int .i64 (cs 2)) ∧ W'.cell? ⟨W.heap.size, 10, none⟩ = some (.int .i64 (cs 3))) ∧ Below W3.heap.size W3 W') [] (by kernel_rfl) (HQ.out _ (below_up HB2.out below_drew1)) (fun hHeld0 => ?_)
    have HB3 := Lib.hid (below_up HB2.out (below_drew1 (w := w2)))
    generalize (World.drew w2) = W0 at *
    refine takeF (i := 0) (v := ?_) rfl (by kernel_rfl) (fun _ _ _ h => h) (Or.inl ⟨by kernel_rfl, ?_⟩) (by assumption) ?_; rotate_left; (focus (intro w _; go_simp; (try with_reducible rfl); done)); (try simp only [Act.put, List.getElem_toArray, List.getElem_cons_succ, List.getElem_cons_zero, List.setIfInBounds_toArray, List.set_cons_zero, List.set_cons_succ])
    refine takeF (i := 1) (v := ?_) rfl (by kernel_rfl) (fun _ _ _ h => h) (Or.inl ⟨by kernel_rfl, ?_⟩) (by assumption) ?_; rotate_left; (focus (intro w _; go_simp; (try with_reducible rfl); done)); (try simp only [Act.put, List.getElem_toArray, List.getElem_cons_succ, List.getElem_cons_zero, List.setIfInBounds_toArray, List.set_cons_zero, List.set_cons_succ])
    refine takeF (i := 2) (v := ?_) rfl (by kernel_rfl) (fun _ _ _ h => h) (Or.inl ⟨by kernel_rfl, ?_⟩) (by assumption) ?_; rotate_left; (focus (intro w _; go_simp; (try with_reducible rfl); done)); (try simp only [Act.put, List.getElem_toArray, List.getElem_cons_succ, List.getElem_cons_zero, List.setIfInBounds_toArray, List.set_cons_zero, List.set_cons_succ])
    refine takeF (i := 3) (v := ?_) rfl (by kernel_rfl) (fun _ _ _ h => h) (Or.inl ⟨by kernel_rfl, ?_⟩) (by assumption) ?_; rotate_left; (focus (intro w _; go_simp; (try with_reducible rfl); done)); (try simp only [Act.put, List.getElem_toArray, List.getElem_cons_succ, List.getElem_cons_zero, List.setIfInBounds_toArray, List.set_cons_zero, List.set_cons_succ])
    refine takeF (i := 4) (v := ?_) rfl (by kernel_rfl) (fun _ _ _ h => h) (Or.inl ⟨by kernel_rfl, ?_⟩) (by assumption) ?_; rotate_left; (focus (intro w _; go_simp; (try with_reducible rfl); done)); (try simp only [Act.put, List.getElem_toArray, List.getElem_cons_succ, List.getElem_cons_zero, List.setIfInBounds_toArray, List.set_cons_zero, List.set_cons_succ])
    refine takeF (i := 5) (v := ?_) rfl (by kernel_rfl) (fun _ _ _ h => h) (Or.inl ⟨by kernel_rfl, ?_⟩) (by assumption) ?_; rotate_left; (focus (intro w _; go_simp; (try with_reducible rfl); done)); (try simp only [Act.put, List.getElem_toArray, List.getElem_cons_succ, List.getElem_cons_zero, List.setIfInBounds_toArray, List.set_cons_zero, List.set_cons_succ])
    refine takeF (i := 6) (v := ?_) rfl (by kernel_rfl) (fun _ _ _ h => h) (Or.inl ⟨by kernel_rfl, ?_⟩) (by assumption) ?_; rotate_left; (focus (intro w _; go_simp; (try with_reducible rfl); done)); (try simp only [Act.put, List.getElem_toArray, List.getElem_cons_succ, List.getElem_cons_zero, List.setIfInBounds_toArray, List.set_cons_zero, List.set_cons_succ])
    refine takeF (i := 7) (v := ?_) rfl (by kernel_rfl) (fun _ _ _ h => h) (Or.inl ⟨by kernel_rfl, ?_⟩) (by assumption) ?_; rotate_left; (focus (intro w _; go_simp; (try with_reducible rfl); done)); (try simp only [Act.put, List.getElem_toArray, List.getElem_cons_succ, List.getElem_cons_zero, List.setIfInBounds_toArray, List.set_cons_zero, List.set_cons_succ])
    refine takeF (i := 8) (v := ?_) rfl (by kernel_rfl) (fun _ _ _ h => h) (Or.inl ⟨by kernel_rfl, ?_⟩) (by assumption) ?_; rotate_left; (focus (intro w _; go_simp; (try with_reducible rfl); done)); (try simp only [Act.put, List.getElem_toArray, List.getElem_cons_succ, List.getElem_cons_zero, List.setIfInBounds_toArray, List.set_cons_zero, List.set_cons_succ])
    refine takeH (i := 9) (v := ?_) rfl (by kernel_rfl) (fun _ _ _ h => h) (Or.inl ⟨by kernel_rfl, ?_⟩) (by assumption) ?_; rotate_left; (focus (intro w hSw; (try dsimp only at hSw); go_simp; (try with_reducible rfl); done)); (try simp only [Act.put, List.getElem_toArray, List.getElem_cons_succ, List.getElem_cons_zero, List.setIfInBounds_toArray, List.set_cons_zero, List.set_cons_succ])
    refine takeF (i := 10) (v := ?_) rfl (by kernel_rfl) (fun _ _ _ h => h) (Or.inl ⟨by kernel_rfl, ?_⟩) (by assumption) ?_; rotate_left; (focus (intro w _; go_simp; (try with_reducible rfl); done)); (try simp only [Act.put, List.getElem_toArray, List.getElem_cons_succ, List.getElem_cons_zero, List.setIfInBounds_toArray, List.set_cons_zero, List.set_cons_succ])
    refine takeH (i := 11) (v := ?_) rfl (by kernel_rfl) (fun _ _ _ h => h) (Or.inl ⟨by kernel_rfl, ?_⟩) (by assumption) ?_; rotate_left; (focus (intro w hSw; (try dsimp only at hSw); go_simp; (try with_reducible rfl); done)); (try simp only [Act.put, List.getElem_toArray, List.getElem_cons_succ, List.getElem_cons_zero, List.setIfInBounds_toArray, List.set_cons_zero, List.set_cons_succ])
    clear hHeld0
    refine readyS (rs := [12]) (by kernel_rfl) (by simp) ?_
    refine ReadyS.consH rfl (fun K hK => ?_) ReadyS.nil
    (try simp only [List.getElem_toArray, List.getElem_cons_succ, List.getElem_cons_zero])
    go_simp
    refine (put_no (HN.out _ HB3.out) id ⟨lf, v, pts, next, ks, cs⟩).mono ?_; rintro e w4 ⟨rfl, hb⟩
    have HB4 := Lib.hid (below_up HB3.out hb); clear hb
    refine hK.out _ _ (HQ.out _ HB4.out) (fun hHeld => ?_)
    clear hK K
    (try simp only [Act.put, List.getElem_toArray, List.getElem_cons_succ, List.getElem_cons_zero, List.setIfInBounds_toArray, List.set_cons_zero, List.set_cons_succ])
    refine takeF (i := 13) (v := ?_) rfl (by kernel_rfl) (fun _ _ _ h => h) (Or.inl ⟨by kernel_rfl, ?_⟩) (by assumption) ?_; rotate_left; (focus (intro w _; go_simp; (try with_reducible rfl); done)); (try simp only [Act.put, List.getElem_toArray, List.getElem_cons_succ, List.getElem_cons_zero, List.setIfInBounds_toArray, List.set_cons_zero, List.set_cons_succ])
    refine takeF (i := 14) (v := ?_) rfl (by kernel_rfl) (fun _ _ _ h => h) (Or.inl ⟨by kernel_rfl, ?_⟩) (by assumption) ?_; rotate_left; (focus (intro w _; go_simp; (try with_reducible rfl); done)); (try simp only [Act.put, List.getElem_toArray, List.getElem_cons_succ, List.getElem_cons_zero, List.setIfInBounds_toArray, List.set_cons_zero, List.set_cons_succ])
    refine takeF (i := 15) (v := ?_) rfl (by kernel_rfl) (fun _ _ _ h => h) (Or.inl ⟨by kernel_rfl, ?_⟩) (by assumption) ?_; rotate_left; (focus (intro w _; go_simp; (try with_reducible rfl); done)); (try simp only [Act.put, List.getElem_toArray, List.getElem_cons_succ, List.getElem_cons_zero, List.setIfInBounds_toArray, List.set_cons_zero, List.set_cons_succ])
    refine takeF (i := 16) (v := ?_) rfl (by kernel_rfl) (fun _ _ _ h => h) (Or.inl ⟨by kernel_rfl, ?_⟩) (by assumption) ?_; rotate_left; (focus (intro w _; go_simp; (try with_reducible rfl); done)); (try simp only [Act.put, List.getElem_toArray, List.getElem_cons_succ, List.getElem_cons_zero, List.setIfInBounds_toArray, List.set_cons_zero, List.set_cons_succ])
    refine takeF (i := 17) (v := ?_) rfl (by kernel_rfl) (fun _ _ _ h => h) (Or.inl ⟨by kernel_rfl, ?_⟩) (by assumption) ?_; rotate_left; (focus (intro w _; go_simp; (try with_reducible rfl); done)); (try simp only [Act.put, List.getElem_toArray, List.getElem_cons_succ, List.getElem_cons_zero, List.setIfInBounds_toArray, List.set_cons_zero, List.set_cons_succ])
    refine takeF (i := 18) (v := ?_) rfl (by kernel_rfl) (fun _ _ _ h => h) (Or.inl ⟨by kernel_rfl, ?_⟩) (by assumption) ?_; rotate_left; (focus (intro w _; go_simp; (try with_reducible rfl); done)); (try simp only [Act.put, List.getElem_toArray, List.getElem_cons_succ, List.getElem_cons_zero, List.setIfInBounds_toArray, List.set_cons_zero, List.set_cons_succ])
    refine takeH (i := 19) (v := ?_) rfl (by kernel_rfl) (fun _ _ _ h => h) (Or.inl ⟨by kernel_rfl, ?_⟩) (by assumption) ?_; rotate_left; (focus (intro w hSw; (try dsimp only at hSw); go_simp; (try with_reducible rfl); done)); (try simp only [Act.put, List.getElem_toArray, List.getElem_cons_succ, List.getElem_cons_zero, List.setIfInBounds_toArray, List.set_cons_zero, List.set_cons_succ])
    refine takeF (i := 20) (v := ?_) rfl (by kernel_rfl) (fun _ _ _ h => h) (Or.inl ⟨by kernel_rfl, ?_⟩) (by assumption) ?_; rotate_left; (focus (intro w _; go_simp; (try with_reducible rfl); done)); (try simp only [Act.put, List.getElem_toArray, List.getElem_cons_succ, List.getElem_cons_zero, List.setIfInBounds_toArray, List.set_cons_zero, List.set_cons_succ])
    refine readyS (rs := [21]) (by kernel_rfl) (by simp) ?_
    refine ReadyS.consH rfl (fun K hK => ?_) ReadyS.nil
    (try simp only [List.getElem_toArray, List.getElem_cons_succ, List.getElem_cons_zero])
    go_simp
    (with_reducible refine (drop_no (HN.out _ HB4.out) id).mono ?_); rintro e w5 ⟨rfl, rfl⟩
    clear hHeld
    refine hK.out _ _ (HQ.out _ HB4.out) (fun hHeld => ?_)
    clear hK K
    (try simp only [Act.put, List.getElem_toArray, List.getElem_cons_succ, List.getElem_cons_zero, List.setIfInBounds_toArray, List.set_cons_zero, List.set_cons_succ])
    refine takeF (i := 22) (v := ?_) rfl (by kernel_rfl) (fun _ _ _ h => h) (Or.inl ⟨by kernel_rfl, ?_⟩) (by assumption) ?_; rotate_left; (focus (intro w _; go_simp; (try with_reducible rfl); done)); (try simp only [Act.put, List.getElem_toArray, List.getElem_cons_succ, List.getElem_cons_zero, List.setIfInBounds_toArray, List.set_cons_zero, List.set_cons_succ])
    refine takeF (i := 23) (v := ?_) rfl (by kernel_rfl) (fun _ _ _ h => h) (Or.inl ⟨by kernel_rfl, ?_⟩) (by assumption) ?_; rotate_left; (focus (intro w _; go_simp; (try with_reducible rfl); done)); (try simp only [Act.put, List.getElem_toArray, List.getElem_cons_succ, List.getElem_cons_zero, List.setIfInBounds_toArray, List.set_cons_zero, List.set_cons_succ])
    refine takeF (i := 24) (v := ?_) rfl (by kernel_rfl) (fun _ _ _ h => h) (Or.inl ⟨by kernel_rfl, ?_⟩) (by assumption) ?_; rotate_left; (focus (intro w _; go_simp; (try with_reducible rfl); done)); (try simp only [Act.put, List.getElem_toArray, List.getElem_cons_succ, List.getElem_cons_zero, List.setIfInBounds_toArray, List.set_cons_zero, List.set_cons_succ])
    refine takeF (i := 25) (v := ?_) rfl (by kernel_rfl) (fun _ _ _ h => h) (Or.inl ⟨by kernel_rfl, ?_⟩) (by assumption) ?_; rotate_left; (focus (intro w _; go_simp; (try with_reducible rfl); done)); (try simp only [Act.put, List.getElem_toArray, List.getElem_cons_succ, List.getElem_cons_zero, List.setIfInBounds_toArray, List.set_cons_zero, List.set_cons_succ])
    refine takeF (i := 26) (v := ?_) rfl (by kernel_rfl) (fun _ _ _ h => h) (Or.inl ⟨by kernel_rfl, ?_⟩) (by assumption) ?_; rotate_left; (focus (intro w _; go_simp; (try with_reducible rfl); done)); (try simp only [Act.put, List.getElem_toArray, List.getElem_cons_succ, List.getElem_cons_zero, List.setIfInBounds_toArray, List.set_cons_zero, List.set_cons_succ])
    refine takeH (i := 27) (v := ?_) rfl (by kernel_rfl) (fun _ _ _ h => h) (Or.inl ⟨by kernel_rfl, ?_⟩) (by assumption) ?_; rotate_left; (focus (intro w hSw; (try dsimp only at hSw); go_simp; (try with_reducible rfl); done)); (try simp only [Act.put, List.getElem_toArray, List.getElem_cons_succ, List.getElem_cons_zero, List.setIfInBounds_toArray, List.set_cons_zero, List.set_cons_succ])
    refine takeF (i := 30) (v := ?_) rfl (by kernel_rfl) (fun _ _ _ h => h) (Or.inl ⟨by kernel_rfl, ?_⟩) (by assumption) ?_; rotate_left; (focus (intro w _; go_simp; (try with_reducible rfl); done)); (try simp only [Act.put, List.getElem_toArray, List.getElem_cons_succ, List.getElem_cons_zero, List.setIfInBounds_toArray, List.set_cons_zero, List.set_cons_succ])
    refine takeF (i := 31) (v := ?_) rfl (by kernel_rfl) (fun _ _ _ h => h) (Or.inl ⟨by kernel_rfl, ?_⟩) (by assumption) ?_; rotate_left; (focus (intro w _; go_simp; (try with_reducible rfl); done)); (try simp only [Act.put, List.getElem_toArray, List.getElem_cons_succ, List.getElem_cons_zero, List.setIfInBounds_toArray, List.set_cons_zero, List.set_cons_succ])
    refine takeF (i := 32) (v := ?_) rfl (by kernel_rfl) (fun _ _ _ h => h) (Or.inl ⟨by kernel_rfl, ?_⟩) (by assumption) ?_; rotate_left; (focus (intro w _; go_simp; (try with_reducible rfl); done)); (try simp only [Act.put, List.getElem_toArray, List.getElem_cons_succ, List.getElem_cons_zero, List.setIfInBounds_toArray, List.set_cons_zero, List.set_cons_succ])
    refine takeH (i := 33) (v := ?_) rfl (by kernel_rfl) (fun _ _ _ h => h) (Or.inl ⟨by kernel_rfl, ?_⟩) (by assumption) ?_; rotate_left; (focus (intro w hSw; (try dsimp only at hSw); go_simp; (try with_reducible rfl); done)); (try simp only [Act.put, List.getElem_toArray, List.getElem_cons_succ, List.getElem_cons_zero, List.setIfInBounds_toArray, List.set_cons_zero, List.set_cons_succ])
    refine readyS (rs := [28]) (by kernel_rfl) (by simp) ?_
    refine ReadyS.consH rfl (fun K hK => ?_) ReadyS.nil
    (try simp only [List.getElem_toArray, List.getElem_cons_succ, List.getElem_cons_zero])
    go_simp
    (with_reducible refine (ids_no (HN.out _ HB4.out)).mono ?_); rintro e w6 ⟨rfl, rfl⟩
    clear hHeld
    refine hK.out _ _ (HQ.out _ HB4.out) (fun hHeld => ?_)
    clear hK K
    (try simp only [Act.put, List.getElem_toArray, List.getElem_cons_succ, List.getElem_cons_zero, List.setIfInBounds_toArray, List.set_cons_zero, List.set_cons_succ])
    refine takeF (i := 29) (v := ?_) rfl (by kernel_rfl) (fun _ _ _ h => h) (Or.inl ⟨by kernel_rfl, ?_⟩) (by assumption) ?_; rotate_left; (focus (intro w _; go_simp; (try with_reducible rfl); done)); (try simp only [Act.put, List.getElem_toArray, List.getElem_cons_succ, List.getElem_cons_zero, List.setIfInBounds_toArray, List.set_cons_zero, List.set_cons_succ])
    refine readyS (rs := [34]) (by kernel_rfl) (by simp) ?_
    refine ReadyS.consH rfl (fun K hK => ?_) ReadyS.nil
    (try simp only [List.getElem_toArray, List.getElem_cons_succ, List.getElem_cons_zero])
    go_simp
    (with_reducible refine (changed_no (HN.out _ HB4.out) (nob_none _)).mono ?_); rintro e w7 ⟨rfl, hb⟩
    have HB7 := Lib.hid (below_up HB4.out hb); clear hb hHeld
    refine hK.out _ _ (HQ.out _ HB7.out) (fun hHeld => ?_)
    clear hK K
    (try simp only [Act.put, List.getElem_toArray, List.getElem_cons_succ, List.getElem_cons_zero, List.setIfInBounds_toArray, List.set_cons_zero, List.set_cons_succ])
    refine takeF (i := 35) (v := ?_) rfl (by kernel_rfl) (fun _ _ _ h => h) (Or.inl ⟨by kernel_rfl, ?_⟩) (by assumption) ?_; rotate_left; (focus (intro w _; go_simp; (try with_reducible rfl); done)); (try simp only [Act.put, List.getElem_toArray, List.getElem_cons_succ, List.getElem_cons_zero, List.setIfInBounds_toArray, List.set_cons_zero, List.set_cons_succ])
    refine takeF (i := 36) (v := ?_) rfl (by kernel_rfl) (fun _ _ _ h => h) (Or.inl ⟨by kernel_rfl, ?_⟩) (by assumption) ?_; rotate_left; (focus (intro w _; go_simp; (try with_reducible rfl); done)); (try simp only [Act.put, List.getElem_toArray, List.getElem_cons_succ, List.getElem_cons_zero, List.setIfInBounds_toArray, List.set_cons_zero, List.set_cons_succ])
    refine takeF (i := 37) (v := ?_) rfl (by kernel_rfl) (fun _ _ _ h => h) (Or.inl ⟨by kernel_rfl, ?_⟩) (by assumption) ?_; rotate_left; (focus (intro w _; go_simp; (try with_reducible rfl); done)); (try simp only [Act.put, List.getElem_toArray, List.getElem_cons_succ, List.getElem_cons_zero, List.setIfInBounds_toArray, List.set_cons_zero, List.set_cons_succ])
    refine takeF (i := 38) (v := ?_) rfl (by kernel_rfl) (fun _ _ _ h => h) (Or.inl ⟨by kernel_rfl, ?_⟩) (by assumption) ?_; rotate_left; (focus (intro w _; go_simp; (try with_reducible rfl); done)); (try simp only [Act.put, List.getElem_toArray, List.getElem_cons_succ, List.getElem_cons_zero, List.setIfInBounds_toArray, List.set_cons_zero, List.set_cons_succ])
    refine takeF (i := 39) (v := ?_) rfl (by kernel_rfl) (fun _ _ _ h => h) (Or.inl ⟨by kernel_rfl, ?_⟩) (by assumption) ?_; rotate_left; (focus (intro w _; go_simp; (try with_reducible rfl); done)); (try simp only [Act.put, List.getElem_toArray, List.getElem_cons_succ, List.getElem_cons_zero, List.setIfInBounds_toArray, List.set_cons_zero, List.set_cons_succ])
    refine takeF (i := 40) (v := ?_) rfl (by kernel_rfl) (fun _ _ _ h => h) (Or.inl ⟨by kernel_rfl, ?_⟩) (by assumption) ?_; rotate_left; (focus (intro w _; go_simp; (try with_reducible rfl); done)); (try simp only [Act.put, List.getElem_toArray, List.getElem_cons_succ, List.getElem_cons_zero, List.setIfInBounds_toArray, List.set_cons_zero, List.set_cons_succ])
    refine takeF (i := 41) (v := ?_) rfl (by kernel_rfl) (fun _ _ _ h => h) (Or.inl ⟨by kernel_rfl, ?_⟩) (by assumption) ?_; rotate_left; (focus (intro w _; go_simp; (try with_reducible rfl); done)); (try simp only [Act.put, List.getElem_toArray, List.getElem_cons_succ, List.getElem_cons_zero, List.setIfInBounds_toArray, List.set_cons_zero, List.set_cons_succ])
    refine takeF (i := 42) (v := ?_) rfl (by kernel_rfl) (fun _ _ _ h => h) (Or.inl ⟨by kernel_rfl, ?_⟩) (by assumption) ?_; rotate_left; (focus (intro w _; go_simp; (try with_reducible rfl); done)); (try simp only [Act.put, List.getElem_toArray, List.getElem_cons_succ, List.getElem_cons_zero, List.setIfInBounds_toArray, List.set_cons_zero, List.set_cons_succ])
    refine takeH (i := 43) (v := ?_) rfl (by kernel_rfl) (fun _ _ _ h => h) (Or.inl ⟨by kernel_rfl, ?_⟩) (by assumption) ?_; rotate_left; (focus (intro w hSw; (try dsimp only at hSw); go_simp; (try with_reducible rfl); done)); (try simp only [Act.put, List.getElem_toArray, List.getElem_cons_succ, List.getElem_cons_zero, List.setIfInBounds_toArray, List.set_cons_zero, List.set_cons_succ])
    refine readyS (rs := [44]) (by kernel_rfl) (by simp) ?_
    refine ReadyS.consH rfl (fun K hK => ?_) ReadyS.nil
    (try simp only [List.getElem_toArray, List.getElem_cons_succ, List.getElem_cons_zero])
    go_simp
    (with_reducible refine (clone_no (HN.out _ HB7.out)).mono ?_); rintro e w8 ⟨rfl, rfl⟩
    clear hHeld
    refine hK.out _ _ (HQ.out _ HB7.out) (fun hHeld => ?_)
    clear hK K
    (try simp only [Act.put, List.getElem_toArray, List.getElem_cons_succ, List.getElem_cons_zero, List.setIfInBounds_toArray, List.set_cons_zero, List.set_cons_succ])
    refine takeF (i := 45) (v := ?_) rfl (by kernel_rfl) (fun _ _ _ h => h) (Or.inl ⟨by kernel_rfl, ?_⟩) (by assumption) ?_; rotate_left; (focus (intro w _; go_simp; (try with_reducible rfl); done)); (try simp only [Act.put, List.getElem_toArray, List.getElem_cons_succ, List.getElem_cons_zero, List.setIfInBounds_toArray, List.set_cons_zero, List.set_cons_succ])
    refine takeF (i := 46) (v := ?_) rfl (by kernel_rfl) (fun _ _ _ h => h) (Or.inl ⟨by kernel_rfl, ?_⟩) (by assumption) ?_; rotate_left; (focus (intro w _; go_simp; (try with_reducible rfl); done)); (try simp only [Act.put, List.getElem_toArray, List.getElem_cons_succ, List.getElem_cons_zero, List.setIfInBounds_toArray, List.set_cons_zero, List.set_cons_succ])
    clear hHeld
    refine doneS (by kernel_rfl) ?_ _
    go_wp2
    exact ⟨⟨i + 1, by go_num, by omega, HB7.out⟩, by simp [intOf]; omega⟩
  · obtain rfl : i = 2 := by omega
    go_wp2_with fail
    (with_reducible refine (alive_ok _).mono ?_); rintro e w1 ⟨rfl, hb⟩
    have HB1 := Lib.hid (below_up HBr.out hb); clear hb
    go_wp2
    go_ret
    exact ⟨rfl, below_up HB.out HB1.out⟩
end Go.Proofs.Ythpnlgdcijmocaa.Gv
