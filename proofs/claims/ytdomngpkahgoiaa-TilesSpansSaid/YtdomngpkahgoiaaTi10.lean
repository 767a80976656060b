/- The walks over tiles.Order$1, tiles.Order. -/
import Derived.Test.YtdomngpkahgoiaaTi9
import Derived.Test.YtdomngpkahgoiaaCmpO
import Derived.Test.YtdomngpkahgoiaaCs9
namespace Go.Proofs.Ytdomngpkahgoiaa.Ti
open Go.RowKit Rg St Zw
set_option linter.unusedVariables false
set_option linter.unusedSimpArgs false
def cmC (x y : CeS) : Int := orL [cmpI (begC x : Int) (begC y : Int), cmpI x.l y.l]
def CLt (x y : CeS) : Prop := begC x < begC y ∨ (begC x = begC y ∧ x.l < y.l)
theorem cmC_lt (x y : CeS) : cmC x y < 0 ↔ CLt x y := by
  unfold cmC CLt orL orL orL cmpI
  (repeat' split) <;> omega
theorem ltc_c (x y : CeS) : StC.ltc cmC x y = true ↔ CLt x y := by unfold StC.ltc; rw [decide_eq_true_iff]; exact cmC_lt x y
theorem ltc_cf (x y : CeS) : StC.ltc cmC x y = false ↔ ¬ CLt x y := by rw [← ltc_c]; simp
theorem swo_c : SWO (StC.ltc cmC) where
  asymm := fun a b h => by rw [ltc_c] at h; rw [ltc_cf]; unfold CLt at *; omega
  trans := fun a b c h1 h2 => by rw [ltc_c] at *; unfold CLt at *; omega
  ntrans := fun a b c h1 h2 => by rw [ltc_cf] at *; unfold CLt at *; omega
theorem ird_new2 (W : World) (a b : Int) : IRd (W.alloc (.cells #[.int .i64 a, .int .i64 b] 3)) (.slice (some ⟨W.heap.size, 0, none⟩) 2 2) [a, b] := ⟨_, _, rfl, Nat.le_refl _, rd_new _ _ _ _ rfl⟩
abbrev AtC0 (W : World) (g : Nat) (x : CeS) : Prop := W.cell? ⟨g, 0, none⟩ = some (.int .u32 (x.x : Nat)) ∧ W.cell? ⟨g, 1, none⟩ = some (.int .u32 (x.y : Nat)) ∧ W.cell? ⟨g, 2, none⟩ = some (.int .i64 x.l)
set_option maxHeartbeats 4000000 in
set_option maxRecDepth 100000 in
theorem order1_ok (x y : CeS) (hx : x.fine) (hy : y.fine) (w : World) : Calls Try.prog 50 #[cev x, cev y] w fun e w' => e = .returned (.int .i64 (cmC x y)) ∧ Below w.heap.size w w' := by
  unfold cmC
  have j1 := fun (W : World) => begin_ok x W hx
  have j2 := fun (W : World) => begin_ok y W hy
  have h1 := fun (W : World) => cmpu_ok (begC x) (begC y) W
  have h2 := fun (W : World) => cmpi_ok x.l y.l W
  generalize begC x = X at *
  generalize begC y = Y at *
  obtain ⟨c1, hc1⟩ : ∃ c, cmpI (X : Int) (Y : Int) = c := ⟨_, rfl⟩
  obtain ⟨c2, hc2⟩ : ∃ c, cmpI x.l y.l = c := ⟨_, rfl⟩
  rw [hc1] at h1 ⊢
  rw [hc2] at h2 ⊢
  have HN := Lib.hid (And.intro (And.intro j1 j2) (And.intro h1 h2))
  clear j1 j2 h1 h2 hc1 hc2
  have s1 := fun (W : World) (o : Obj) => (show (W.alloc o).heap.size = W.heap.size + 1 by unfold World.alloc; simp)
  have hg1 := alloc_at (w := w) (.cells #[.int .u32 (x.x : Nat), .int .u32 (x.y : Nat), .int .i64 x.l] 32) rfl
  have hb1 := below_alloc1 w (.cells #[.int .u32 (x.x : Nat), .int .u32 (x.y : Nat), .int .i64 x.l] 32)
  have hw1 := s1 w (.cells #[.int .u32 (x.x : Nat), .int .u32 (x.y : Nat), .int .i64 x.l] 32)
  have hg2 := alloc_at (w := w.alloc (.cells #[.int .u32 (x.x : Nat), .int .u32 (x.y : Nat), .int .i64 x.l] 32)) (.cells #[.int .u32 (y.x : Nat), .int .u32 (y.y : Nat), .int .i64 y.l] 32) hw1.symm
  have hg1' := alloc_old hg1 (.cells #[.int .u32 (y.x : Nat), .int .u32 (y.y : Nat), .int .i64 y.l] 32)
  have hb2 := below_alloc hb1 (.cells #[.int .u32 (y.x : Nat), .int .u32 (y.y : Nat), .int .i64 y.l] 32)
  have HG := Lib.hid (And.intro hg1' (And.intro hg2 hb2))
  clear hg1 hb1 hw1 hg2 hg1' hb2 s1 hx hy
  go_enter Try.func50, Try.ntmps50
  go_upto_region 1 with (fail)
  generalize ((w.alloc _).alloc _) = w0 at *
  have HQ : Hid (∀ W, Below w0.heap.size w0 W → AtC0 W w.heap.size x ∧ AtC0 W (w.heap.size + 1) y) := Lib.hid (fun W hb => ⟨ccell (block_up HG.out.1 hb), ccell (block_up HG.out.2.1 hb)⟩)
  have HD := Lib.hid (below_drew1 (w := w0))
  refine beginS (S := fun W => AtC0 W w.heap.size x ∧ AtC0 W (w.heap.size + 1) y) [] (by kernel_rfl) (HQ.out _ HD.out) (fun hHeld0 => ?_)
  generalize (World.drew w0) = W0 at *
  refine takeH (i := 0) (v := ?_) rfl (by kernel_rfl) (fun _ _ _ h => h) (Or.inl ⟨by kernel_rfl, ?_⟩) (by assumption) ?_; rotate_left; (focus (intro w hSw; (try dsimp only at hSw); go_simp; (try with_reducible rfl); done)); (try simp only [Act.put, List.getElem_toArray, List.getElem_cons_succ, List.getElem_cons_zero, List.setIfInBounds_toArray, List.set_cons_zero, List.set_cons_succ])
  refine takeH (i := 2) (v := ?_) rfl (by kernel_rfl) (fun _ _ _ h => h) (Or.inl ⟨by kernel_rfl, ?_⟩) (by assumption) ?_; rotate_left; (focus (intro w hSw; (try dsimp only at hSw); go_simp; (try with_reducible rfl); done)); (try simp only [Act.put, List.getElem_toArray, List.getElem_cons_succ, List.getElem_cons_zero, List.setIfInBounds_toArray, List.set_cons_zero, List.set_cons_succ])
  refine takeF (i := 5) (v := ?_) rfl (by kernel_rfl) (fun _ _ _ h => h) (Or.inl ⟨by kernel_rfl, ?_⟩) (by assumption) ?_; rotate_left; (focus (intro w _; go_simp; (try with_reducible rfl); done)); (try simp only [Act.put, List.getElem_toArray, List.getElem_cons_succ, List.getElem_cons_zero, List.setIfInBounds_toArray, List.set_cons_zero, List.set_cons_succ])
  refine takeH (i := 6) (v := ?_) rfl (by kernel_rfl) (fun _ _ _ h => h) (Or.inl ⟨by kernel_rfl, ?_⟩) (by assumption) ?_; rotate_left; (focus (intro w hSw; (try dsimp only at hSw); go_simp; (try with_reducible rfl); done)); (try simp only [Act.put, List.getElem_toArray, List.getElem_cons_succ, List.getElem_cons_zero, List.setIfInBounds_toArray, List.set_cons_zero, List.set_cons_succ])
  refine takeF (i := 7) (v := ?_) rfl (by kernel_rfl) (fun _ _ _ h => h) (Or.inl ⟨by kernel_rfl, ?_⟩) (by assumption) ?_; rotate_left; (focus (intro w _; go_simp; (try with_reducible rfl); done)); (try simp only [Act.put, List.getElem_toArray, List.getElem_cons_succ, List.getElem_cons_zero, List.setIfInBounds_toArray, List.set_cons_zero, List.set_cons_succ])
  refine takeH (i := 8) (v := ?_) rfl (by kernel_rfl) (fun _ _ _ h => h) (Or.inl ⟨by kernel_rfl, ?_⟩) (by assumption) ?_; rotate_left; (focus (intro w hSw; (try dsimp only at hSw); go_simp; (try with_reducible rfl); done)); (try simp only [Act.put, List.getElem_toArray, List.getElem_cons_succ, List.getElem_cons_zero, List.setIfInBounds_toArray, List.set_cons_zero, List.set_cons_succ])
  clear hHeld0
  refine readyS (rs := [1]) (by kernel_rfl) (by simp) ?_
  refine ReadyS.consH rfl (fun K hK => ?_) ReadyS.nil
  (try simp only [List.getElem_toArray, List.getElem_cons_succ, List.getElem_cons_zero])
  go_simp
  (with_reducible refine (HN.out.1.1 _).mono ?_); rintro e W1 ⟨rfl, hb⟩
  have HD1 := Lib.hid (below_up HD.out hb); clear hb
  refine hK.out _ _ (HQ.out _ HD1.out) (fun hHeld => ?_)
  clear hK K
  (try simp only [Act.put, List.getElem_toArray, List.getElem_cons_succ, List.getElem_cons_zero, List.setIfInBounds_toArray, List.set_cons_zero, List.set_cons_succ])
  clear hHeld
  refine readyS (rs := [3]) (by kernel_rfl) (by simp) ?_
  refine ReadyS.consH rfl (fun K hK => ?_) ReadyS.nil
  (try simp only [List.getElem_toArray, List.getElem_cons_succ, List.getElem_cons_zero])
  go_simp
  (with_reducible refine (HN.out.1.2 _).mono ?_); rintro e W2 ⟨rfl, hb⟩
  have HD2 := Lib.hid (below_up HD1.out hb); clear hb
  refine hK.out _ _ (HQ.out _ HD2.out) (fun hHeld => ?_)
  clear hK K
  (try simp only [Act.put, List.getElem_toArray, List.getElem_cons_succ, List.getElem_cons_zero, List.setIfInBounds_toArray, List.set_cons_zero, List.set_cons_succ])
  clear hHeld
  refine readyS (rs := [4]) (by kernel_rfl) (by simp) ?_
  refine ReadyS.consH rfl (fun K hK => ?_) ReadyS.nil
  (try simp only [List.getElem_toArray, List.getElem_cons_succ, List.getElem_cons_zero])
  go_simp
  (with_reducible refine (HN.out.2.1 _).mono ?_); rintro e W3 ⟨rfl, hw⟩
  subst hw
  refine hK.out _ _ (HQ.out _ HD2.out) (fun hHeld => ?_)
  clear hK K
  (try simp only [Act.put, List.getElem_toArray, List.getElem_cons_succ, List.getElem_cons_zero, List.setIfInBounds_toArray, List.set_cons_zero, List.set_cons_succ])
  clear hHeld
  refine readyS (rs := [9]) (by kernel_rfl) (by simp) ?_
  refine ReadyS.consH rfl (fun K hK => ?_) ReadyS.nil
  (try simp only [List.getElem_toArray, List.getElem_cons_succ, List.getElem_cons_zero])
  go_simp
  (with_reducible refine (HN.out.2.2 _).mono ?_); rintro e W3 ⟨rfl, hw⟩
  subst hw
  refine hK.out _ _ (HQ.out _ HD2.out) (fun hHeld => ?_)
  clear hK K
  (try simp only [Act.put, List.getElem_toArray, List.getElem_cons_succ, List.getElem_cons_zero, List.setIfInBounds_toArray, List.set_cons_zero, List.set_cons_succ])
  clear hHeld
  have HOr := Lib.hid (or_ok _ [c1, c2] _ (ird_new2 W2 c1 c2) (by simp))
  have HD3 := Lib.hid (below_up HD2.out (below_alloc1 W2 (.cells #[.int .i64 c1, .int .i64 c2] 3)))
  refine readyS (rs := [10]) (by kernel_rfl) (by simp) ?_
  refine ReadyS.consH rfl (fun K hK => ?_) ReadyS.nil
  (try simp only [List.getElem_toArray, List.getElem_cons_succ, List.getElem_cons_zero])
  go_simp
  refine hK.out _ _ (HQ.out _ HD3.out) (fun hHeld => ?_)
  clear hK K
  (try simp only [Act.put, List.getElem_toArray, List.getElem_cons_succ, List.getElem_cons_zero, List.setIfInBounds_toArray, List.set_cons_zero, List.set_cons_succ])
  generalize (World.alloc W2 _) = W4 at *
  generalize W2.heap.size = g4 at *
  clear hHeld
  refine readyS (rs := [11]) (by kernel_rfl) (by simp) ?_
  refine ReadyS.consH rfl (fun K hK => ?_) ReadyS.nil
  (try simp only [List.getElem_toArray, List.getElem_cons_succ, List.getElem_cons_zero])
  go_simp
  (with_reducible refine HOr.out.mono ?_); rintro e W5 ⟨rfl, hw⟩
  subst hw
  refine hK.out _ _ (HQ.out _ HD3.out) (fun hHeld => ?_)
  clear hK K
  (try simp only [Act.put, List.getElem_toArray, List.getElem_cons_succ, List.getElem_cons_zero, List.setIfInBounds_toArray, List.set_cons_zero, List.set_cons_succ])
  refine takeF (i := 12) (v := ?_) rfl (by kernel_rfl) (fun _ _ _ h => h) (Or.inl ⟨by kernel_rfl, ?_⟩) (by assumption) ?_; rotate_left; (focus (intro w _; go_simp; (try with_reducible rfl); done)); (try simp only [Act.put, List.getElem_toArray, List.getElem_cons_succ, List.getElem_cons_zero, List.setIfInBounds_toArray, List.set_cons_zero, List.set_cons_succ])
  refine doneS (by kernel_rfl) ?_ _
  go_wp2
  go_ret
  exact ⟨rfl, below_up HG.out.2.2 HD3.out⟩
theorem runs_c : StC.RunsF 50 := fun args W => by go_simp
theorem cmc_ok : StC.CmpOk 50 #[] (fun _ => True) CeS.fine cmC := fun x y W hx hy _ => order1_ok x y hx hy W
end Go.Proofs.Ytdomngpkahgoiaa.Ti
