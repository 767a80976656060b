/- The walks over wide.Cmp, heap.compare, heap.Less. -/
import Derived.Test.YtkjapmafipnmpaaH1
import Derived.Deep.DeepCutAuto
import Derived.Deep.RegionHeld3
namespace Go.Proofs.Ytkjapmafipnmpaa.Hp
open Go.RowKit Lt
set_option linter.unusedVariables false
set_option linter.unusedSimpArgs false
theorem ird_new (W : World) (l : List Int) (cs : Array Value) (h : cs.toList = iv l) (n : Nat) (hn : l.length = n) : IRd (W.alloc (.cells cs 3)) (.slice (some ⟨W.heap.size, 0, none⟩) n n) l := by
  subst hn
  exact ⟨_, _, rfl, Nat.le_refl _, rd_new _ _ _ _ h⟩
set_option maxHeartbeats 4000000 in
set_option maxRecDepth 100000 in
theorem wcmp_ok (a b a' b' : Nat) (w : World) : Calls Try.prog 58 #[.agg #[.int .u64 (a : Nat), .int .u64 (b : Nat)], .agg #[.int .u64 (a' : Nat), .int .u64 (b' : Nat)]] w fun e w' => e = .returned (.int .i64 (orL [cmpI a a', cmpI b b'])) ∧ Below w.heap.size w w' := by
  have h1 := fun (W : World) => cmpu_ok a a' W
  have h2 := fun (W : World) => cmpu_ok b b' W
  obtain ⟨c1, e1⟩ : ∃ c, cmpI (a : Int) (a' : Int) = c := ⟨_, rfl⟩
  obtain ⟨c2, e2⟩ : ∃ c, cmpI (b : Int) (b' : Int) = c := ⟨_, rfl⟩
  rw [e1, e2]
  simp only [e1] at h1
  simp only [e2] at h2
  have HN := Lib.hid (And.intro h1 h2); clear h1 h2 e1 e2
  have hg1 := alloc_at (w := w) (.cells #[.int .u64 (a : Nat), .int .u64 (b : Nat)] 31) rfl
  have hb1 := below_alloc1 w (.cells #[.int .u64 (a : Nat), .int .u64 (b : Nat)] 31)
  have hw1 : (w.alloc (.cells #[.int .u64 (a : Nat), .int .u64 (b : Nat)] 31)).heap.size = w.heap.size + 1 := by unfold World.alloc; simp
  have hg2 := alloc_at (w := w.alloc (.cells #[.int .u64 (a : Nat), .int .u64 (b : Nat)] 31)) (.cells #[.int .u64 (a' : Nat), .int .u64 (b' : Nat)] 31) hw1.symm
  have hg1' := alloc_old hg1 (.cells #[.int .u64 (a' : Nat), .int .u64 (b' : Nat)] 31)
  have hb2 := below_alloc hb1 (.cells #[.int .u64 (a' : Nat), .int .u64 (b' : Nat)] 31)
  have HG := Lib.hid (And.intro hg1' (And.intro hg2 hb2)); clear hg1 hb1 hw1 hg2 hg1' hb2
  go_enter Try.func58, Try.ntmps58
  go_upto_region 1 with (fail)
  generalize ((w.alloc _).alloc _) = w0 at *
  have HQ := Lib.hid (fun (W : World) (hb : Below w0.heap.size w0 W) => And.intro (cells2 (block_up HG.out.1 hb)) (cells2 (block_up HG.out.2.1 hb)))
  refine wp_region_held_drew (S := fun W => ((W.cell? ⟨w.heap.size, 0, none⟩ = some (.int .u64 (a : Nat)) ∧ W.cell? ⟨w.heap.size, 1, none⟩ = some (.int .u64 (b : Nat))) ∧ (W.cell? ⟨w.heap.size + 1, 0, none⟩ = some (.int .u64 (a' : Nat)) ∧ W.cell? ⟨w.heap.size + 1, 1, none⟩ = some (.int .u64 (b' : Nat)))) ∧ Below w0.heap.size w0 W) (by kernel_rfl) ⟨HQ.out _ below_drew1, below_drew1⟩ (fun hHeld0 => ?_)
  have Hb := Lib.hid (below_drew1 (w := w0))
  generalize (World.drew w0) = Wc at *
  refine wpAnyH_take (i := 0) (v := ?_) rfl (by kernel_rfl) (by kernel_rfl) (by kernel_rfl) (fun _ _ _ h => h) (Or.inl ⟨by kernel_rfl, ?_⟩) (by assumption) ?_; rotate_left; (focus (intro w hSw; (try dsimp only at hSw); go_simp; (try with_reducible rfl); done)); (try simp only [Act.put, List.getElem_toArray, List.getElem_cons_succ, List.getElem_cons_zero, List.setIfInBounds_toArray, List.set_cons_zero, List.set_cons_succ])
  refine wpAnyH_take (i := 1) (v := ?_) rfl (by kernel_rfl) (by kernel_rfl) (by kernel_rfl) (fun _ _ _ h => h) (Or.inl ⟨by kernel_rfl, ?_⟩) (by assumption) ?_; rotate_left; (focus (intro w hSw; (try dsimp only at hSw); go_simp; (try with_reducible rfl); done)); (try simp only [Act.put, List.getElem_toArray, List.getElem_cons_succ, List.getElem_cons_zero, List.setIfInBounds_toArray, List.set_cons_zero, List.set_cons_succ])
  refine wpAnyH_take (i := 2) (v := ?_) rfl (by kernel_rfl) (by kernel_rfl) (by kernel_rfl) (fun _ _ _ h => h) (Or.inl ⟨by kernel_rfl, ?_⟩) (by assumption) ?_; rotate_left; (focus (intro w hSw; (try dsimp only at hSw); go_simp; (try with_reducible rfl); done)); (try simp only [Act.put, List.getElem_toArray, List.getElem_cons_succ, List.getElem_cons_zero, List.setIfInBounds_toArray, List.set_cons_zero, List.set_cons_succ])
  refine wpAnyH_take (i := 3) (v := ?_) rfl (by kernel_rfl) (by kernel_rfl) (by kernel_rfl) (fun _ _ _ h => h) (Or.inl ⟨by kernel_rfl, ?_⟩) (by assumption) ?_; rotate_left; (focus (intro w hSw; (try dsimp only at hSw); go_simp; (try with_reducible rfl); done)); (try simp only [Act.put, List.getElem_toArray, List.getElem_cons_succ, List.getElem_cons_zero, List.setIfInBounds_toArray, List.set_cons_zero, List.set_cons_succ])
  refine wpAnyH_take (i := 5) (v := ?_) rfl (by kernel_rfl) (by kernel_rfl) (by kernel_rfl) (fun _ _ _ h => h) (Or.inl ⟨by kernel_rfl, ?_⟩) (by assumption) ?_; rotate_left; (focus (intro w hSw; (try dsimp only at hSw); go_simp; (try with_reducible rfl); done)); (try simp only [Act.put, List.getElem_toArray, List.getElem_cons_succ, List.getElem_cons_zero, List.setIfInBounds_toArray, List.set_cons_zero, List.set_cons_succ])
  refine wpAnyH_take (i := 6) (v := ?_) rfl (by kernel_rfl) (by kernel_rfl) (by kernel_rfl) (fun _ _ _ h => h) (Or.inl ⟨by kernel_rfl, ?_⟩) (by assumption) ?_; rotate_left; (focus (intro w hSw; (try dsimp only at hSw); go_simp; (try with_reducible rfl); done)); (try simp only [Act.put, List.getElem_toArray, List.getElem_cons_succ, List.getElem_cons_zero, List.setIfInBounds_toArray, List.set_cons_zero, List.set_cons_succ])
  refine wpAnyH_take (i := 7) (v := ?_) rfl (by kernel_rfl) (by kernel_rfl) (by kernel_rfl) (fun _ _ _ h => h) (Or.inl ⟨by kernel_rfl, ?_⟩) (by assumption) ?_; rotate_left; (focus (intro w hSw; (try dsimp only at hSw); go_simp; (try with_reducible rfl); done)); (try simp only [Act.put, List.getElem_toArray, List.getElem_cons_succ, List.getElem_cons_zero, List.setIfInBounds_toArray, List.set_cons_zero, List.set_cons_succ])
  refine wpAnyH_take (i := 8) (v := ?_) rfl (by kernel_rfl) (by kernel_rfl) (by kernel_rfl) (fun _ _ _ h => h) (Or.inl ⟨by kernel_rfl, ?_⟩) (by assumption) ?_; rotate_left; (focus (intro w hSw; (try dsimp only at hSw); go_simp; (try with_reducible rfl); done)); (try simp only [Act.put, List.getElem_toArray, List.getElem_cons_succ, List.getElem_cons_zero, List.setIfInBounds_toArray, List.set_cons_zero, List.set_cons_succ])
  refine wpAnyH_ready (rs := [4]) (by kernel_rfl) (by simp) ?_
  refine AllReadyH.cons rfl (fun K hK => ?_) AllReadyH.nil
  (try simp only [List.getElem_toArray, List.getElem_cons_succ, List.getElem_cons_zero])
  go_simp
  (with_reducible refine (HN.out.1 _).mono ?_); rintro e W1 ⟨rfl, rfl⟩
  refine hK.out _ _ (hHeld0) (fun hHeld => ?_)
  clear hK K
  (try simp only [Act.put, List.getElem_toArray, List.getElem_cons_succ, List.getElem_cons_zero, List.setIfInBounds_toArray, List.set_cons_zero, List.set_cons_succ])
  refine wpAnyH_ready (rs := [9]) (by kernel_rfl) (by simp) ?_
  refine AllReadyH.cons rfl (fun K hK => ?_) AllReadyH.nil
  (try simp only [List.getElem_toArray, List.getElem_cons_succ, List.getElem_cons_zero])
  go_simp
  (with_reducible refine (HN.out.2 _).mono ?_); rintro e W2 ⟨rfl, rfl⟩
  refine hK.out _ _ (hHeld0) (fun hHeld => ?_)
  clear hK K
  (try simp only [Act.put, List.getElem_toArray, List.getElem_cons_succ, List.getElem_cons_zero, List.setIfInBounds_toArray, List.set_cons_zero, List.set_cons_succ])
  refine wpAnyH_ready (rs := [10]) (by kernel_rfl) (by simp) ?_
  refine AllReadyH.cons rfl (fun K hK => ?_) AllReadyH.nil
  (try simp only [List.getElem_toArray, List.getElem_cons_succ, List.getElem_cons_zero])
  go_simp
  have hi := ird_new Wc [c1, c2] #[.int .i64 c1, .int .i64 c2] rfl 2 rfl
  have Hb1 := Lib.hid (below_alloc Hb.out (.cells #[.int .i64 c1, .int .i64 c2] 3))
  have HL := Lib.hid (show [c1, c2].length ≤ 100 by simp)
  have HI := Lib.hid hi; clear hi
  refine hK.out _ _ (⟨HQ.out _ Hb1.out, Hb1.out⟩) (fun hHeld => ?_)
  clear hK K
  (try simp only [Act.put, List.getElem_toArray, List.getElem_cons_succ, List.getElem_cons_zero, List.setIfInBounds_toArray, List.set_cons_zero, List.set_cons_succ])
  generalize (World.alloc Wc _) = Wd at *
  refine wpAnyH_ready (rs := [11]) (by kernel_rfl) (by simp) ?_
  refine AllReadyH.cons rfl (fun K hK => ?_) AllReadyH.nil
  (try simp only [List.getElem_toArray, List.getElem_cons_succ, List.getElem_cons_zero])
  go_simp
  (with_reducible refine (or_ok _ _ _ HI.out HL.out).mono ?_); rintro e W3 ⟨rfl, rfl⟩
  refine hK.out _ _ (⟨HQ.out _ Hb1.out, Hb1.out⟩) (fun hHeld => ?_)
  clear hK K
  (try simp only [Act.put, List.getElem_toArray, List.getElem_cons_succ, List.getElem_cons_zero, List.setIfInBounds_toArray, List.set_cons_zero, List.set_cons_succ])
  refine wpAnyH_take (i := 12) (v := ?_) rfl (by kernel_rfl) (by kernel_rfl) (by kernel_rfl) (fun _ _ _ h => h) (Or.inl ⟨by kernel_rfl, ?_⟩) (by assumption) ?_; rotate_left; (focus (intro w hSw; (try dsimp only at hSw); go_simp; (try with_reducible rfl); done)); (try simp only [Act.put, List.getElem_toArray, List.getElem_cons_succ, List.getElem_cons_zero, List.setIfInBounds_toArray, List.set_cons_zero, List.set_cons_succ])
  refine wpAnyH_done (by kernel_rfl) ?_ _
  go_wp2
  go_ret
  exact ⟨rfl, below_up HG.out.2.2 Hb1.out⟩
def cmpS (x y : ItS) : Int := orL [orL [cmpI x.hi y.hi, cmpI x.lo y.lo], cmpI x.od y.od, cmpI x.id y.id]
theorem cmpS_lt (x y : ItS) : cmpS x y < 0 ↔ ItS.Lt x y := by
  unfold cmpS orL orL orL orL cmpI ItS.Lt
  (repeat' split) <;> omega
set_option maxHeartbeats 4000000 in
set_option maxRecDepth 100000 in
theorem compare_ok (x y : ItS) (w : World) : Calls Try.prog 89 #[iv4 x, iv4 y] w fun e w' => e = .returned (.int .i64 (cmpS x y)) ∧ Below w.heap.size w w' := by
  unfold cmpS
  have h1 := fun (W : World) => wcmp_ok x.hi x.lo y.hi y.lo W
  have h2 := fun (W : World) => cmpi_ok x.od y.od W
  have h3 := fun (W : World) => cmpi_ok x.id y.id W
  obtain ⟨c1, e1⟩ : ∃ c, orL [cmpI (x.hi : Int) (y.hi : Int), cmpI (x.lo : Int) (y.lo : Int)] = c := ⟨_, rfl⟩
  obtain ⟨c2, e2⟩ : ∃ c, cmpI x.od y.od = c := ⟨_, rfl⟩
  obtain ⟨c3, e3⟩ : ∃ c, cmpI x.id y.id = c := ⟨_, rfl⟩
  rw [e1, e2, e3]
  simp only [e1] at h1
  simp only [e2] at h2
  simp only [e3] at h3
  have HN := Lib.hid (And.intro h1 (And.intro h2 h3)); clear h1 h2 h3 e1 e2 e3
  have hg1 := alloc_at (w := w) (.cells #[.int .u64 (x.hi : Nat), .int .u64 (x.lo : Nat), .int .i64 x.od, .int .i64 x.id] 33) rfl
  have hb1 := below_alloc1 w (.cells #[.int .u64 (x.hi : Nat), .int .u64 (x.lo : Nat), .int .i64 x.od, .int .i64 x.id] 33)
  have hw1 : (w.alloc (.cells #[.int .u64 (x.hi : Nat), .int .u64 (x.lo : Nat), .int .i64 x.od, .int .i64 x.id] 33)).heap.size = w.heap.size + 1 := by unfold World.alloc; simp
  have hg2 := alloc_at (w := w.alloc (.cells #[.int .u64 (x.hi : Nat), .int .u64 (x.lo : Nat), .int .i64 x.od, .int .i64 x.id] 33)) (.cells #[.int .u64 (y.hi : Nat), .int .u64 (y.lo : Nat), .int .i64 y.od, .int .i64 y.id] 33) hw1.symm
  have hg1' := alloc_old hg1 (.cells #[.int .u64 (y.hi : Nat), .int .u64 (y.lo : Nat), .int .i64 y.od, .int .i64 y.id] 33)
  have hb2 := below_alloc hb1 (.cells #[.int .u64 (y.hi : Nat), .int .u64 (y.lo : Nat), .int .i64 y.od, .int .i64 y.id] 33)
  have HG := Lib.hid (And.intro hg1' (And.intro hg2 hb2)); clear hg1 hb1 hw1 hg2 hg1' hb2
  go_enter Try.func89, Try.ntmps89
  go_upto_region 1 with (fail)
  generalize ((w.alloc _).alloc _) = w0 at *
  have HQ := Lib.hid (fun (W : World) (hb : Below w0.heap.size w0 W) => And.intro (cells4 (block_up HG.out.1 hb)) (cells4 (block_up HG.out.2.1 hb)))
  refine wp_region_held_drew (S := fun W => ((W.cell? ⟨w.heap.size, 0, none⟩ = some (.int .u64 (x.hi : Nat)) ∧ W.cell? ⟨w.heap.size, 1, none⟩ = some (.int .u64 (x.lo : Nat)) ∧ W.cell? ⟨w.heap.size, 2, none⟩ = some (.int .i64 x.od) ∧ W.cell? ⟨w.heap.size, 3, none⟩ = some (.int .i64 x.id)) ∧ (W.cell? ⟨w.heap.size + 1, 0, none⟩ = some (.int .u64 (y.hi : Nat)) ∧ W.cell? ⟨w.heap.size + 1, 1, none⟩ = some (.int .u64 (y.lo : Nat)) ∧ W.cell? ⟨w.heap.size + 1, 2, none⟩ = some (.int .i64 y.od) ∧ W.cell? ⟨w.heap.size + 1, 3, none⟩ = some (.int .i64 y.id))) ∧ Below w0.heap.size w0 W) (by kernel_rfl) ⟨HQ.out _ below_drew1, below_drew1⟩ (fun hHeld0 => ?_)
  have Hb := Lib.hid (below_drew1 (w := w0))
  generalize (World.drew w0) = Wc at *
  refine wpAnyH_take (i := 0) (v := ?_) rfl (by kernel_rfl) (by kernel_rfl) (by kernel_rfl) (fun _ _ _ h => h) (Or.inl ⟨by kernel_rfl, ?_⟩) (by assumption) ?_; rotate_left; (focus (intro w hSw; (try dsimp only at hSw); go_simp; (try with_reducible rfl); done)); (try simp only [Act.put, List.getElem_toArray, List.getElem_cons_succ, List.getElem_cons_zero, List.setIfInBounds_toArray, List.set_cons_zero, List.set_cons_succ])
  refine wpAnyH_take (i := 1) (v := ?_) rfl (by kernel_rfl) (by kernel_rfl) (by kernel_rfl) (fun _ _ _ h => h) (Or.inl ⟨by kernel_rfl, ?_⟩) (by assumption) ?_; rotate_left; (focus (intro w hSw; (try dsimp only at hSw); go_simp; (try with_reducible rfl); done)); (try simp only [Act.put, List.getElem_toArray, List.getElem_cons_succ, List.getElem_cons_zero, List.setIfInBounds_toArray, List.set_cons_zero, List.set_cons_succ])
  refine wpAnyH_take (i := 2) (v := ?_) rfl (by kernel_rfl) (by kernel_rfl) (by kernel_rfl) (fun _ _ _ h => h) (Or.inl ⟨by kernel_rfl, ?_⟩) (by assumption) ?_; rotate_left; (focus (intro w hSw; (try dsimp only at hSw); go_simp; (try with_reducible rfl); done)); (try simp only [Act.put, List.getElem_toArray, List.getElem_cons_succ, List.getElem_cons_zero, List.setIfInBounds_toArray, List.set_cons_zero, List.set_cons_succ])
  refine wpAnyH_take (i := 3) (v := ?_) rfl (by kernel_rfl) (by kernel_rfl) (by kernel_rfl) (fun _ _ _ h => h) (Or.inl ⟨by kernel_rfl, ?_⟩) (by assumption) ?_; rotate_left; (focus (intro w hSw; (try dsimp only at hSw); go_simp; (try with_reducible rfl); done)); (try simp only [Act.put, List.getElem_toArray, List.getElem_cons_succ, List.getElem_cons_zero, List.setIfInBounds_toArray, List.set_cons_zero, List.set_cons_succ])
  refine wpAnyH_take (i := 5) (v := ?_) rfl (by kernel_rfl) (by kernel_rfl) (by kernel_rfl) (fun _ _ _ h => h) (Or.inl ⟨by kernel_rfl, ?_⟩) (by assumption) ?_; rotate_left; (focus (intro w hSw; (try dsimp only at hSw); go_simp; (try with_reducible rfl); done)); (try simp only [Act.put, List.getElem_toArray, List.getElem_cons_succ, List.getElem_cons_zero, List.setIfInBounds_toArray, List.set_cons_zero, List.set_cons_succ])
  refine wpAnyH_take (i := 6) (v := ?_) rfl (by kernel_rfl) (by kernel_rfl) (by kernel_rfl) (fun _ _ _ h => h) (Or.inl ⟨by kernel_rfl, ?_⟩) (by assumption) ?_; rotate_left; (focus (intro w hSw; (try dsimp only at hSw); go_simp; (try with_reducible rfl); done)); (try simp only [Act.put, List.getElem_toArray, List.getElem_cons_succ, List.getElem_cons_zero, List.setIfInBounds_toArray, List.set_cons_zero, List.set_cons_succ])
  refine wpAnyH_take (i := 7) (v := ?_) rfl (by kernel_rfl) (by kernel_rfl) (by kernel_rfl) (fun _ _ _ h => h) (Or.inl ⟨by kernel_rfl, ?_⟩) (by assumption) ?_; rotate_left; (focus (intro w hSw; (try dsimp only at hSw); go_simp; (try with_reducible rfl); done)); (try simp only [Act.put, List.getElem_toArray, List.getElem_cons_succ, List.getElem_cons_zero, List.setIfInBounds_toArray, List.set_cons_zero, List.set_cons_succ])
  refine wpAnyH_take (i := 8) (v := ?_) rfl (by kernel_rfl) (by kernel_rfl) (by kernel_rfl) (fun _ _ _ h => h) (Or.inl ⟨by kernel_rfl, ?_⟩) (by assumption) ?_; rotate_left; (focus (intro w hSw; (try dsimp only at hSw); go_simp; (try with_reducible rfl); done)); (try simp only [Act.put, List.getElem_toArray, List.getElem_cons_succ, List.getElem_cons_zero, List.setIfInBounds_toArray, List.set_cons_zero, List.set_cons_succ])
  refine wpAnyH_take (i := 10) (v := ?_) rfl (by kernel_rfl) (by kernel_rfl) (by kernel_rfl) (fun _ _ _ h => h) (Or.inl ⟨by kernel_rfl, ?_⟩) (by assumption) ?_; rotate_left; (focus (intro w hSw; (try dsimp only at hSw); go_simp; (try with_reducible rfl); done)); (try simp only [Act.put, List.getElem_toArray, List.getElem_cons_succ, List.getElem_cons_zero, List.setIfInBounds_toArray, List.set_cons_zero, List.set_cons_succ])
  refine wpAnyH_take (i := 11) (v := ?_) rfl (by kernel_rfl) (by kernel_rfl) (by kernel_rfl) (fun _ _ _ h => h) (Or.inl ⟨by kernel_rfl, ?_⟩) (by assumption) ?_; rotate_left; (focus (intro w hSw; (try dsimp only at hSw); go_simp; (try with_reducible rfl); done)); (try simp only [Act.put, List.getElem_toArray, List.getElem_cons_succ, List.getElem_cons_zero, List.setIfInBounds_toArray, List.set_cons_zero, List.set_cons_succ])
  refine wpAnyH_take (i := 12) (v := ?_) rfl (by kernel_rfl) (by kernel_rfl) (by kernel_rfl) (fun _ _ _ h => h) (Or.inl ⟨by kernel_rfl, ?_⟩) (by assumption) ?_; rotate_left; (focus (intro w hSw; (try dsimp only at hSw); go_simp; (try with_reducible rfl); done)); (try simp only [Act.put, List.getElem_toArray, List.getElem_cons_succ, List.getElem_cons_zero, List.setIfInBounds_toArray, List.set_cons_zero, List.set_cons_succ])
  refine wpAnyH_take (i := 13) (v := ?_) rfl (by kernel_rfl) (by kernel_rfl) (by kernel_rfl) (fun _ _ _ h => h) (Or.inl ⟨by kernel_rfl, ?_⟩) (by assumption) ?_; rotate_left; (focus (intro w hSw; (try dsimp only at hSw); go_simp; (try with_reducible rfl); done)); (try simp only [Act.put, List.getElem_toArray, List.getElem_cons_succ, List.getElem_cons_zero, List.setIfInBounds_toArray, List.set_cons_zero, List.set_cons_succ])
  refine wpAnyH_ready (rs := [4]) (by kernel_rfl) (by simp) ?_
  refine AllReadyH.cons rfl (fun K hK => ?_) AllReadyH.nil
  (try simp only [List.getElem_toArray, List.getElem_cons_succ, List.getElem_cons_zero])
  go_simp
  (with_reducible refine (HN.out.1 _).mono ?_); rintro e W1 ⟨rfl, hb⟩
  have Hb1 := Lib.hid (below_up Hb.out hb); clear hb
  refine hK.out _ _ (⟨HQ.out _ Hb1.out, Hb1.out⟩) (fun hHeld => ?_)
  clear hK K
  (try simp only [Act.put, List.getElem_toArray, List.getElem_cons_succ, List.getElem_cons_zero, List.setIfInBounds_toArray, List.set_cons_zero, List.set_cons_succ])
  refine wpAnyH_ready (rs := [9]) (by kernel_rfl) (by simp) ?_
  refine AllReadyH.cons rfl (fun K hK => ?_) AllReadyH.nil
  (try simp only [List.getElem_toArray, List.getElem_cons_succ, List.getElem_cons_zero])
  go_simp
  (with_reducible refine (HN.out.2.1 _).mono ?_); rintro e W2 ⟨rfl, rfl⟩
  refine hK.out _ _ (⟨HQ.out _ Hb1.out, Hb1.out⟩) (fun hHeld => ?_)
  clear hK K
  (try simp only [Act.put, List.getElem_toArray, List.getElem_cons_succ, List.getElem_cons_zero, List.setIfInBounds_toArray, List.set_cons_zero, List.set_cons_succ])
  refine wpAnyH_ready (rs := [14]) (by kernel_rfl) (by simp) ?_
  refine AllReadyH.cons rfl (fun K hK => ?_) AllReadyH.nil
  (try simp only [List.getElem_toArray, List.getElem_cons_succ, List.getElem_cons_zero])
  go_simp
  (with_reducible refine (HN.out.2.2 _).mono ?_); rintro e W3 ⟨rfl, rfl⟩
  refine hK.out _ _ (⟨HQ.out _ Hb1.out, Hb1.out⟩) (fun hHeld => ?_)
  clear hK K
  (try simp only [Act.put, List.getElem_toArray, List.getElem_cons_succ, List.getElem_cons_zero, List.setIfInBounds_toArray, List.set_cons_zero, List.set_cons_succ])
  refine wpAnyH_ready (rs := [15]) (by kernel_rfl) (by simp) ?_
  refine AllReadyH.cons rfl (fun K hK => ?_) AllReadyH.nil
  (try simp only [List.getElem_toArray, List.getElem_cons_succ, List.getElem_cons_zero])
  go_simp
  have hi := ird_new W1 [c1, c2, c3] #[.int .i64 c1, .int .i64 c2, .int .i64 c3] rfl 3 rfl
  have Hb2 := Lib.hid (below_alloc Hb1.out (.cells #[.int .i64 c1, .int .i64 c2, .int .i64 c3] 3))
  have HL := Lib.hid (show [c1, c2, c3].length ≤ 100 by simp)
  have HI := Lib.hid hi; clear hi
  refine hK.out _ _ (⟨HQ.out _ Hb2.out, Hb2.out⟩) (fun hHeld => ?_)
  clear hK K
  (try simp only [Act.put, List.getElem_toArray, List.getElem_cons_succ, List.getElem_cons_zero, List.setIfInBounds_toArray, List.set_cons_zero, List.set_cons_succ])
  generalize (World.alloc W1 _) = Wd at *
  refine wpAnyH_ready (rs := [16]) (by kernel_rfl) (by simp) ?_
  refine AllReadyH.cons rfl (fun K hK => ?_) AllReadyH.nil
  (try simp only [List.getElem_toArray, List.getElem_cons_succ, List.getElem_cons_zero])
  go_simp
  (with_reducible refine (or_ok _ _ _ HI.out HL.out).mono ?_); rintro e W4 ⟨rfl, rfl⟩
  refine hK.out _ _ (⟨HQ.out _ Hb2.out, Hb2.out⟩) (fun hHeld => ?_)
  clear hK K
  (try simp only [Act.put, List.getElem_toArray, List.getElem_cons_succ, List.getElem_cons_zero, List.setIfInBounds_toArray, List.set_cons_zero, List.set_cons_succ])
  refine wpAnyH_take (i := 17) (v := ?_) rfl (by kernel_rfl) (by kernel_rfl) (by kernel_rfl) (fun _ _ _ h => h) (Or.inl ⟨by kernel_rfl, ?_⟩) (by assumption) ?_; rotate_left; (focus (intro w hSw; (try dsimp only at hSw); go_simp; (try with_reducible rfl); done)); (try simp only [Act.put, List.getElem_toArray, List.getElem_cons_succ, List.getElem_cons_zero, List.setIfInBounds_toArray, List.set_cons_zero, List.set_cons_succ])
  refine wpAnyH_done (by kernel_rfl) ?_ _
  go_wp2
  go_ret
  exact ⟨rfl, below_up HG.out.2.2 Hb2.out⟩
set_option maxHeartbeats 4000000 in
set_option maxRecDepth 100000 in
theorem Less_ok (x y : ItS) (w : World) : Calls Try.prog 57 #[iv4 x, iv4 y] w fun e w' => e = .returned (.bool (decide (ItS.Lt x y))) ∧ Below w.heap.size w w' := by
  have hc := fun (W : World) => compare_ok x y W
  have hd : decide (cmpS x y < 0) = decide (ItS.Lt x y) := by rw [decide_eq_decide]; exact cmpS_lt x y
  obtain ⟨R, hR⟩ : ∃ r, decide (ItS.Lt x y) = r := ⟨_, rfl⟩
  obtain ⟨c, e1⟩ : ∃ c, cmpS x y = c := ⟨_, rfl⟩
  rw [hR] at hd ⊢
  rw [e1] at hd
  simp only [e1] at hc
  have HN := Lib.hid hc
  have HD := Lib.hid hd
  have hb2 := below_alloc (below_alloc1 w (.cells #[.int .u64 (x.hi : Nat), .int .u64 (x.lo : Nat), .int .i64 x.od, .int .i64 x.id] 33)) (.cells #[.int .u64 (y.hi : Nat), .int .u64 (y.lo : Nat), .int .i64 y.od, .int .i64 y.id] 33)
  have HB := Lib.hid hb2
  clear hc hd hb2 hR e1
  go_enter Try.func57, Try.ntmps57
  go_wp2_with fail
  (with_reducible refine (HN.out _).mono ?_); rintro e w1 ⟨rfl, hb⟩
  have H1 := Lib.hid (below_up HB.out hb); clear hb
  go_wp2
  go_ret
  exact ⟨ret_bool HD.out, H1.out⟩
end Go.Proofs.Ytkjapmafipnmpaa.Hp
