/- The walk over wide.Cmp. -/
import Derived.Test.YtdomngpkahgoiaaCmpO
import Derived.Deep.DeepCutAuto
import Derived.Deep.RegionHeld3
namespace Go.Proofs.Ytdomngpkahgoiaa.St
open Go.RowKit
set_option linter.unusedVariables false
set_option linter.unusedSimpArgs false
theorem cells2 {W : World} {g : Nat} {a b : Value} {t : TypeId} {f : Nat × Nat} (h : W.heap[g]? = some (.cells #[a, b] t f)) : W.cell? ⟨g, 0, none⟩ = some a ∧ W.cell? ⟨g, 1, none⟩ = some b := by
  rw [cell_block h, cell_block h]; exact ⟨rfl, rfl⟩
theorem cells3 {W : World} {g : Nat} {a b c : Value} {t : TypeId} {f : Nat × Nat} (h : W.heap[g]? = some (.cells #[a, b, c] t f)) : W.cell? ⟨g, 0, none⟩ = some a ∧ W.cell? ⟨g, 1, none⟩ = some b ∧ W.cell? ⟨g, 2, none⟩ = some c := by
  rw [cell_block h, cell_block h, cell_block h]; exact ⟨rfl, rfl, rfl⟩
theorem cells4 {W : World} {g : Nat} {a b c d : Value} {t : TypeId} {f : Nat × Nat} (h : W.heap[g]? = some (.cells #[a, b, c, d] t f)) : W.cell? ⟨g, 0, none⟩ = some a ∧ W.cell? ⟨g, 1, none⟩ = some b ∧ W.cell? ⟨g, 2, none⟩ = some c ∧ W.cell? ⟨g, 3, none⟩ = some d := by
  rw [cell_block h, cell_block h, cell_block h, cell_block h]; exact ⟨rfl, rfl, rfl, rfl⟩
theorem ird_new (W : World) (l : List Int) (cs : Array Value) (h : cs.toList = iv l) (n : Nat) (hn : l.length = n) : IRd (W.alloc (.cells cs 3)) (.slice (some ⟨W.heap.size, 0, none⟩) n n) l := by
  subst hn
  exact ⟨_, _, rfl, Nat.le_refl _, rd_new _ _ _ _ h⟩
set_option maxHeartbeats 4000000 in
set_option maxRecDepth 100000 in
theorem wcmp_ok (a b a' b' : Nat) (w : World) : Calls Try.prog 68 #[.agg #[.int .u64 (a : Nat), .int .u64 (b : Nat)], .agg #[.int .u64 (a' : Nat), .int .u64 (b' : Nat)]] w fun e w' => e = .returned (.int .i64 (orL [cmpI a a', cmpI b b'])) ∧ Below w.heap.size w w' := by
  have h1 := fun (W : World) => cmpu_ok a a' W
  have h2 := fun (W : World) => cmpu_ok b b' W
  obtain ⟨c1, e1⟩ : ∃ c, cmpI (a : Int) (a' : Int) = c := ⟨_, rfl⟩
  obtain ⟨c2, e2⟩ : ∃ c, cmpI (b : Int) (b' : Int) = c := ⟨_, rfl⟩
  rw [e1, e2]
  simp only [e1] at h1
  simp only [e2] at h2
  have HN := Lib.hid (And.intro h1 h2); clear h1 h2 e1 e2
  have hg1 := alloc_at (w := w) (.cells #[.int .u64 (a : Nat), .int .u64 (b : Nat)] 103) rfl
  have hb1 := below_alloc1 w (.cells #[.int .u64 (a : Nat), .int .u64 (b : Nat)] 103)
  have hw1 : (w.alloc (.cells #[.int .u64 (a : Nat), .int .u64 (b : Nat)] 103)).heap.size = w.heap.size + 1 := by unfold World.alloc; simp
  have hg2 := alloc_at (w := w.alloc (.cells #[.int .u64 (a : Nat), .int .u64 (b : Nat)] 103)) (.cells #[.int .u64 (a' : Nat), .int .u64 (b' : Nat)] 103) hw1.symm
  have hg1' := alloc_old hg1 (.cells #[.int .u64 (a' : Nat), .int .u64 (b' : Nat)] 103)
  have hb2 := below_alloc hb1 (.cells #[.int .u64 (a' : Nat), .int .u64 (b' : Nat)] 103)
  have HG := Lib.hid (And.intro hg1' (And.intro hg2 hb2)); clear hg1 hb1 hw1 hg2 hg1' hb2
  go_enter Try.func68, Try.ntmps68
  go_upto_region 1 with (fail)
  generalize ((w.alloc _).alloc _) = w0 at *
  have HQ := Lib.hid (fun (W : World) (hb : Below w0.heap.size w0 W) => And.intro (cells2 (block_up HG.out.1 hb)) (cells2 (block_up HG.out.2.1 hb)))
  refine wp_region_held_drew (S := fun W => ((W.cell? ⟨w.heap.size, 0, none⟩ = some (.int .u64 (a : Nat)) ∧ W.cell? ⟨w.heap.size, 1, none⟩ = some (.int .u64 (b : Nat))) ∧ (W.cell? ⟨w.heap.size + 1, 0, none⟩ = some (.int .u64 (a' : Nat)) ∧ W.cell? ⟨w.heap.size + 1, 1, none⟩ = some (.int .u64 (b' : Nat)))) ∧ Below w0.heap.size w0 W) (by kernel_rfl) ⟨HQ.out _ below_drew1, below_drew1⟩ (fun hHeld0 => ?_)
  have Hb := Lib.hid (below_drew1 (w := w0))
  generalize (World.drew w0) = Wc at *
  refine wpAnyH_take (i := 0) (v := ?_) rfl (by kernel_rfl) (by kernel_rfl) (by kernel_rfl) (fun _ _ _ h => h) (Or.inl ⟨by kernel_rfl, ?_⟩) (by assumption) ?_; rotate_left; (focus (intro w hSw; (try dsimp only at hSw); go_simp; (try with_reducible rfl); done)); (try simp only [Act.put, List.getElem_toArray, List.getElem_cons_succ, List.getElem_cons_zero, List.setIfInBounds_toArray, List.set_cons_zero, List.set_cons_succ])
  refine wpAnyH_take (i := 1) (v := ?_) rfl (by kernel_rfl) (by kernel_rfl) (by kernel_rfl) (fun _ _ _ h => h) (Or.inl ⟨by kernel_rfl, ?_⟩) (by assumption) ?_; rotate_left; (focus (intro w hSw; (try dsimp only at hSw); go_simp; (try with_reducible rfl); done)); (try simp only [Act.put, List.getElem_toArray, List.getElem_cons_succ, List.getElem_cons_zero, List.setIfInBounds_toArray, List.set_cons_zero, List.set_cons_succ])
  refine wpAnyH_take (i := 2) (v := ?_) rfl (by kernel_rfl) (by kernel_rfl) (by kernel_rfl) (fun _ _ _ h => h) (Or.inl ⟨by kernel_rfl, ?_⟩) (by assumption) ?_; rotate_left; (focus (intro w hSw; (try dsimp only at hSw); go_simp; (try with_reducible rfl); done)); (try simp only [Act.put, List.getElem_toArray, List.getElem_cons_succ, List.getElem_cons_zero, List.setIfInBounds_toArray, List.set_cons_zero, List.set_cons_succ])
  refine wpAnyH_take (i := 3) (v := ?_) rfl (by kernel_rfl) (by kernel_rfl) (by kernel_rfl) (fun _ _ _ h => h) (Or.inl ⟨by kernel_rfl, ?_⟩) (by assumption) ?_; rotate_left; (focus (intro w hSw; (try dsimp only at hSw); go_simp; (try with_reducible rfl); done)); (try simp only [Act.put, List.getElem_toArray, List.getElem_cons_succ, List.getElem_cons_zero, List.setIfInBounds_toArray, List.set_cons_zero, List.set_cons_succ])
  refine wpAnyH_take (i := 5) (v := ?_) rfl (by kernel_rfl) (by kernel_rfl) (by kernel_rfl) (fun _ _ _ h => h) (Or.inl ⟨by kernel_rfl, ?_⟩) (by assumption) ?_; rotate_left; (focus (intro w hSw; (try dsimp only at hSw); go_simp; (try with_reducible rfl); done)); (try simp only [Act.put, List.getElem_toArray, List.getElem_cons_succ, List.getElem_cons_zero, List.setIfInBounds_toArray, List.set_cons_zero, List.set_cons_succ])
  refine wpAnyH_take (i := 6) (v := ?_) rfl (by kernel_rfl) (by kernel_rfl) (by kernel_rfl) (fun _ _ _ h => h) (Or.inl ⟨by kernel_rfl, ?_⟩) (by assumption) ?_; rotate_left; (focus (intro w hSw; (try dsimp only at hSw); go_simp; (try with_reducible rfl); done)); (try simp only [Act.put, List.getElem_toArray, List.getElem_cons_succ, List.getElem_cons_zero, List.setIfInBounds_toArray, List.set_cons_zero, List.set_cons_succ])
  refine wpAnyH_take (i := 7) (v := ?_) rfl (by kernel_rfl) (by kernel_rfl) (by kernel_rfl) (fun _ _ _ h => h) (Or.inl ⟨by kernel_rfl, ?_⟩) (by assumption) ?_; rotate_left; (focus (intro w hSw; (try dsimp only at hSw); go_simp; (try with_reducible rfl); done)); (try simp only [Act.put, List.getElem_toArray, List.getElem_cons_succ, List.getElem_cons_zero, List.setIfInBounds_toArray, List.set_cons_zero, List.set_cons_succ])
  refine wpAnyH_take (i := 8) (v := ?_) rfl (by kernel_rfl) (by kernel_rfl) (by kernel_rfl) (fun _ _ _ h => h) (Or.inl ⟨by kernel_rfl, ?_⟩) (by assumption) ?_; rotate_left; (focus (intro w hSw; (try dsimp only at hSw); go_simp; (try with_reducible rfl); done)); (try simp only [Act.put, List.getElem_toArray, List.getElem_cons_succ, List.getElem_cons_zero, List.setIfInBounds_toArray, List.set_cons_zero, List.set_cons_succ])
  refine wpAnyH_ready (rs := [4]) (by kernel_rfl) (by simp) ?_
  refine AllReadyH.cons rfl (fun K hK => ?_) AllReadyH.nil
  (try simp only [List.getElem_toArray, List.getElem_cons_succ, List.getElem_cons_zero])
  go_simp
  (with_reducible refine (HN.out.1 _).mono ?_); rintro e W1 ⟨rfl, rfl⟩
  refine hK.out _ _ (hHeld0) (fun hHeld => ?_)
  clear hK K
  (try simp only [Act.put, List.getElem_toArray, List.getElem_cons_succ, List.getElem_cons_zero, List.setIfInBounds_toArray, List.set_cons_zero, List.set_cons_succ])
  refine wpAnyH_ready (rs := [9]) (by kernel_rfl) (by simp) ?_
  refine AllReadyH.cons rfl (fun K hK => ?_) AllReadyH.nil
  (try simp only [List.getElem_toArray, List.getElem_cons_succ, List.getElem_cons_zero])
  go_simp
  (with_reducible refine (HN.out.2 _).mono ?_); rintro e W2 ⟨rfl, rfl⟩
  refine hK.out _ _ (hHeld0) (fun hHeld => ?_)
  clear hK K
  (try simp only [Act.put, List.getElem_toArray, List.getElem_cons_succ, List.getElem_cons_zero, List.setIfInBounds_toArray, List.set_cons_zero, List.set_cons_succ])
  refine wpAnyH_ready (rs := [10]) (by kernel_rfl) (by simp) ?_
  refine AllReadyH.cons rfl (fun K hK => ?_) AllReadyH.nil
  (try simp only [List.getElem_toArray, List.getElem_cons_succ, List.getElem_cons_zero])
  go_simp
  have hi := ird_new Wc [c1, c2] #[.int .i64 c1, .int .i64 c2] rfl 2 rfl
  have Hb1 := Lib.hid (below_alloc Hb.out (.cells #[.int .i64 c1, .int .i64 c2] 3))
  have HL := Lib.hid (show [c1, c2].length ≤ 100 by simp)
  have HI := Lib.hid hi; clear hi
  refine hK.out _ _ (⟨HQ.out _ Hb1.out, Hb1.out⟩) (fun hHeld => ?_)
  clear hK K
  (try simp only [Act.put, List.getElem_toArray, List.getElem_cons_succ, List.getElem_cons_zero, List.setIfInBounds_toArray, List.set_cons_zero, List.set_cons_succ])
  generalize (World.alloc Wc _) = Wd at *
  refine wpAnyH_ready (rs := [11]) (by kernel_rfl) (by simp) ?_
  refine AllReadyH.cons rfl (fun K hK => ?_) AllReadyH.nil
  (try simp only [List.getElem_toArray, List.getElem_cons_succ, List.getElem_cons_zero])
  go_simp
  (with_reducible refine (or_ok _ _ _ HI.out HL.out).mono ?_); rintro e W3 ⟨rfl, rfl⟩
  refine hK.out _ _ (⟨HQ.out _ Hb1.out, Hb1.out⟩) (fun hHeld => ?_)
  clear hK K
  (try simp only [Act.put, List.getElem_toArray, List.getElem_cons_succ, List.getElem_cons_zero, List.setIfInBounds_toArray, List.set_cons_zero, List.set_cons_succ])
  refine wpAnyH_take (i := 12) (v := ?_) rfl (by kernel_rfl) (by kernel_rfl) (by kernel_rfl) (fun _ _ _ h => h) (Or.inl ⟨by kernel_rfl, ?_⟩) (by assumption) ?_; rotate_left; (focus (intro w hSw; (try dsimp only at hSw); go_simp; (try with_reducible rfl); done)); (try simp only [Act.put, List.getElem_toArray, List.getElem_cons_succ, List.getElem_cons_zero, List.setIfInBounds_toArray, List.set_cons_zero, List.set_cons_succ])
  refine wpAnyH_done (by kernel_rfl) ?_ _
  go_wp2
  go_ret
  exact ⟨rfl, below_up HG.out.2.2 Hb1.out⟩
end Go.Proofs.Ytdomngpkahgoiaa.St
