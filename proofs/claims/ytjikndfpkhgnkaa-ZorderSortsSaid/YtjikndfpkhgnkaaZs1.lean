/- The walks over zorder.compare, zorder.Less, croftlaw05.less, zorder.Sort. -/
import Derived.Test.YtjikndfpkhgnkaaPs1
import Derived.Test.YtjikndfpkhgnkaaCmpO
import Derived.Test.YtjikndfpkhgnkaaZlaws
namespace Go.Proofs.Ytjikndfpkhgnkaa.St
open Go.RowKit Rg Pt
set_option linter.unusedVariables false
set_option linter.unusedSimpArgs false
def jn (p : PtS) : Nat := Zm.joinN p.x p.y
def cmZ (x y : PtS) : Int := orL [cmpI (jn x : Int) (jn y : Int), cmpI x.id y.id, cmpB x.d y.d]
def ZLt (x y : PtS) : Prop := jn x < jn y ∨ (jn x = jn y ∧ (x.id < y.id ∨ (x.id = y.id ∧ bl x.d.toList y.d.toList = true)))
theorem cmZ_lt (x y : PtS) : cmZ x y < 0 ↔ ZLt x y := by
  unfold cmZ ZLt orL orL orL orL cmpI cmpB
  cases h1 : bl x.d.toList y.d.toList <;> cases h2 : bl y.d.toList x.d.toList <;> simp only [Bool.false_eq_true, if_true, if_false, and_true, and_false, or_false] <;> (repeat' split) <;> omega
theorem ltc_z (x y : PtS) : ltc cmZ x y = true ↔ ZLt x y := by unfold ltc; rw [decide_eq_true_iff]; exact cmZ_lt x y
theorem ltc_zf (x y : PtS) : ltc cmZ x y = false ↔ ¬ ZLt x y := by rw [← ltc_z]; simp
theorem ZLt.tr {x y z : PtS} (h1 : ZLt x y) (h2 : ZLt y z) : ZLt x z := by
  unfold ZLt at *
  rcases h1 with h1 | ⟨e1, h1 | ⟨e2, h1⟩⟩ <;> rcases h2 with h2 | ⟨f1, h2 | ⟨f2, h2⟩⟩
  all_goals first
    | exact .inl (by omega)
    | exact .inr ⟨by omega, .inl (by omega)⟩
    | exact .inr ⟨by omega, .inr ⟨by omega, bl_trans _ _ _ h1 h2⟩⟩
theorem ZLt.irr (x : PtS) : ¬ ZLt x x := by
  unfold ZLt
  rw [bl_irr]
  simp
/-- Neither ahead: as alike as the order sees. -/
theorem ZLt.tri (x y : PtS) : ZLt x y ∨ ZLt y x ∨ (jn x = jn y ∧ x.id = y.id ∧ x.d.toList = y.d.toList) := by
  unfold ZLt
  rcases Nat.lt_trichotomy (jn x) (jn y) with h | h | h
  · exact .inl (.inl h)
  · rcases (by omega : x.id < y.id ∨ x.id = y.id ∨ y.id < x.id) with h2 | h2 | h2
    · exact .inl (.inr ⟨h, .inl h2⟩)
    · cases h3 : bl x.d.toList y.d.toList with
      | true => exact .inl (.inr ⟨h, .inr ⟨h2, rfl⟩⟩)
      | false =>
        cases h4 : bl y.d.toList x.d.toList with
        | true => exact .inr (.inl (.inr ⟨h.symm, .inr ⟨h2.symm, rfl⟩⟩))
        | false => exact .inr (.inr ⟨h, h2, bl_tri _ _ h3 h4⟩)
    · exact .inr (.inl (.inr ⟨h.symm, .inl h2⟩))
  · exact .inr (.inl (.inl h))
theorem swo_z : SWO (ltc cmZ) where
  asymm := fun a b h => by rw [ltc_z] at h; rw [ltc_zf]; exact fun h2 => ZLt.irr _ (ZLt.tr h h2)
  trans := fun a b c h1 h2 => by rw [ltc_z] at *; exact ZLt.tr h1 h2
  ntrans := fun a b c h1 h2 => by
    rw [ltc_zf] at *
    intro h
    rcases ZLt.tri a b with hab | hba | ⟨e1, e2, e3⟩
    · exact h2 (ZLt.tr h hab)
    · exact h1 hba
    · apply h2
      unfold ZLt at h ⊢
      rw [← e1, ← e2, ← e3]
      exact h
abbrev c4 (x : PtS) : Array Value := #[.int .i64 x.id, .int .u32 (x.x : Nat), .int .u32 (x.y : Nat), .string x.d]
abbrev At0 (W : World) (g : Nat) (x : PtS) : Prop := W.cell? ⟨g, 0, none⟩ = some (.int .i64 x.id) ∧ W.cell? ⟨g, 1, none⟩ = some (.int .u32 (x.x : Nat)) ∧ W.cell? ⟨g, 2, none⟩ = some (.int .u32 (x.y : Nat)) ∧ W.cell? ⟨g, 3, none⟩ = some (.string x.d)
theorem at0_of {W : World} {g : Nat} {x : PtS} {t : TypeId} {f : Nat × Nat} (h : W.heap[g]? = some (.cells (c4 x) t f)) : At0 W g x := by
  refine ⟨?_, ?_, ?_, ?_⟩ <;> (rw [cell_block h]; rfl)
theorem ird_new3 (W : World) (a b c : Int) : IRd (W.alloc (.cells #[.int .i64 a, .int .i64 b, .int .i64 c] 3)) (.slice (some ⟨W.heap.size, 0, none⟩) 3 3) [a, b, c] := ⟨_, _, rfl, Nat.le_refl _, rd_new _ _ _ _ rfl⟩
set_option maxHeartbeats 4000000 in
set_option maxRecDepth 100000 in
theorem zcompare_ok (x y : PtS) (hx : x.x < 4294967296 ∧ x.y < 4294967296) (hy : y.x < 4294967296 ∧ y.y < 4294967296) (w : World) : Calls Try.prog 60 #[pv x, pv y] w fun e w' => e = .returned (.int .i64 (cmZ x y)) ∧ Below w.heap.size w w' := by
  unfold cmZ
  have j1 := fun (W : World) => Zw.join_ok x.x x.y W hx.1 hx.2
  have j2 := fun (W : World) => Zw.join_ok y.x y.y W hy.1 hy.2
  have h1 := fun (W : World) => cmpu_ok (jn x) (jn y) W
  have h2 := fun (W : World) => cmpi_ok x.id y.id W
  have h3 := fun (W : World) => cmps_ok x.d y.d W
  have e1 : Zm.joinN x.x x.y = jn x := rfl
  have e2 : Zm.joinN y.x y.y = jn y := rfl
  rw [e1] at j1
  rw [e2] at j2
  generalize jn x = X at *
  generalize jn y = Y at *
  obtain ⟨c1, hc1⟩ : ∃ c, cmpI (X : Int) (Y : Int) = c := ⟨_, rfl⟩
  obtain ⟨c2, hc2⟩ : ∃ c, cmpI x.id y.id = c := ⟨_, rfl⟩
  obtain ⟨c3, hc3⟩ : ∃ c, cmpB x.d y.d = c := ⟨_, rfl⟩
  rw [hc1] at h1 ⊢
  rw [hc2] at h2 ⊢
  rw [hc3] at h3 ⊢
  have HN := Lib.hid (And.intro (And.intro j1 j2) (And.intro h1 (And.intro h2 h3)))
  clear j1 j2 h1 h2 h3 e1 e2 hc1 hc2 hc3
  have hg1 := alloc_at (w := w) (.cells (c4 x) 93) rfl
  have hb1 := below_alloc1 w (.cells (c4 x) 93)
  have hw1 : (w.alloc (.cells (c4 x) 93)).heap.size = w.heap.size + 1 := by unfold World.alloc; simp
  have hg2 := alloc_at (w := w.alloc (.cells (c4 x) 93)) (.cells (c4 y) 93) hw1.symm
  have hg1' := alloc_old hg1 (.cells (c4 y) 93)
  have hb2 := below_alloc hb1 (.cells (c4 y) 93)
  have HG := Lib.hid (And.intro hg1' (And.intro hg2 hb2))
  clear hg1 hb1 hw1 hg2 hg1' hb2
  go_enter Try.func60, Try.ntmps60
  go_upto_region 1 with (fail)
  generalize ((w.alloc _).alloc _) = w0 at *
  have HQ : Hid (∀ W, Below w0.heap.size w0 W → At0 W w.heap.size x ∧ At0 W (w.heap.size + 1) y) := Lib.hid (fun W hb => ⟨at0_of (block_up HG.out.1 hb), at0_of (block_up HG.out.2.1 hb)⟩)
  have HD := Lib.hid (below_drew1 (w := w0))
  refine beginS (S := fun W => At0 W w.heap.size x ∧ At0 W (w.heap.size + 1) y) [] (by kernel_rfl) (HQ.out _ HD.out) (fun hHeld0 => ?_)
  generalize (World.drew w0) = W0 at *
  refine takeF (i := 0) (v := ?_) rfl (by kernel_rfl) (fun _ _ _ h => h) (Or.inl ⟨by kernel_rfl, ?_⟩) (by assumption) ?_; rotate_left; (focus (intro w _; go_simp; (try with_reducible rfl); done)); (try simp only [Act.put, List.getElem_toArray, List.getElem_cons_succ, List.getElem_cons_zero, List.setIfInBounds_toArray, List.set_cons_zero, List.set_cons_succ])
  refine takeH (i := 1) (v := ?_) rfl (by kernel_rfl) (fun _ _ _ h => h) (Or.inl ⟨by kernel_rfl, ?_⟩) (by assumption) ?_; rotate_left; (focus (intro w hSw; (try dsimp only at hSw); go_simp; (try with_reducible rfl); done)); (try simp only [Act.put, List.getElem_toArray, List.getElem_cons_succ, List.getElem_cons_zero, List.setIfInBounds_toArray, List.set_cons_zero, List.set_cons_succ])
  refine takeF (i := 2) (v := ?_) rfl (by kernel_rfl) (fun _ _ _ h => h) (Or.inl ⟨by kernel_rfl, ?_⟩) (by assumption) ?_; rotate_left; (focus (intro w _; go_simp; (try with_reducible rfl); done)); (try simp only [Act.put, List.getElem_toArray, List.getElem_cons_succ, List.getElem_cons_zero, List.setIfInBounds_toArray, List.set_cons_zero, List.set_cons_succ])
  refine takeH (i := 3) (v := ?_) rfl (by kernel_rfl) (fun _ _ _ h => h) (Or.inl ⟨by kernel_rfl, ?_⟩) (by assumption) ?_; rotate_left; (focus (intro w hSw; (try dsimp only at hSw); go_simp; (try with_reducible rfl); done)); (try simp only [Act.put, List.getElem_toArray, List.getElem_cons_succ, List.getElem_cons_zero, List.setIfInBounds_toArray, List.set_cons_zero, List.set_cons_succ])
  refine takeF (i := 5) (v := ?_) rfl (by kernel_rfl) (fun _ _ _ h => h) (Or.inl ⟨by kernel_rfl, ?_⟩) (by assumption) ?_; rotate_left; (focus (intro w _; go_simp; (try with_reducible rfl); done)); (try simp only [Act.put, List.getElem_toArray, List.getElem_cons_succ, List.getElem_cons_zero, List.setIfInBounds_toArray, List.set_cons_zero, List.set_cons_succ])
  refine takeH (i := 6) (v := ?_) rfl (by kernel_rfl) (fun _ _ _ h => h) (Or.inl ⟨by kernel_rfl, ?_⟩) (by assumption) ?_; rotate_left; (focus (intro w hSw; (try dsimp only at hSw); go_simp; (try with_reducible rfl); done)); (try simp only [Act.put, List.getElem_toArray, List.getElem_cons_succ, List.getElem_cons_zero, List.setIfInBounds_toArray, List.set_cons_zero, List.set_cons_succ])
  refine takeF (i := 7) (v := ?_) rfl (by kernel_rfl) (fun _ _ _ h => h) (Or.inl ⟨by kernel_rfl, ?_⟩) (by assumption) ?_; rotate_left; (focus (intro w _; go_simp; (try with_reducible rfl); done)); (try simp only [Act.put, List.getElem_toArray, List.getElem_cons_succ, List.getElem_cons_zero, List.setIfInBounds_toArray, List.set_cons_zero, List.set_cons_succ])
  refine takeH (i := 8) (v := ?_) rfl (by kernel_rfl) (fun _ _ _ h => h) (Or.inl ⟨by kernel_rfl, ?_⟩) (by assumption) ?_; rotate_left; (focus (intro w hSw; (try dsimp only at hSw); go_simp; (try with_reducible rfl); done)); (try simp only [Act.put, List.getElem_toArray, List.getElem_cons_succ, List.getElem_cons_zero, List.setIfInBounds_toArray, List.set_cons_zero, List.set_cons_succ])
  refine takeF (i := 11) (v := ?_) rfl (by kernel_rfl) (fun _ _ _ h => h) (Or.inl ⟨by kernel_rfl, ?_⟩) (by assumption) ?_; rotate_left; (focus (intro w _; go_simp; (try with_reducible rfl); done)); (try simp only [Act.put, List.getElem_toArray, List.getElem_cons_succ, List.getElem_cons_zero, List.setIfInBounds_toArray, List.set_cons_zero, List.set_cons_succ])
  refine takeH (i := 12) (v := ?_) rfl (by kernel_rfl) (fun _ _ _ h => h) (Or.inl ⟨by kernel_rfl, ?_⟩) (by assumption) ?_; rotate_left; (focus (intro w hSw; (try dsimp only at hSw); go_simp; (try with_reducible rfl); done)); (try simp only [Act.put, List.getElem_toArray, List.getElem_cons_succ, List.getElem_cons_zero, List.setIfInBounds_toArray, List.set_cons_zero, List.set_cons_succ])
  refine takeF (i := 13) (v := ?_) rfl (by kernel_rfl) (fun _ _ _ h => h) (Or.inl ⟨by kernel_rfl, ?_⟩) (by assumption) ?_; rotate_left; (focus (intro w _; go_simp; (try with_reducible rfl); done)); (try simp only [Act.put, List.getElem_toArray, List.getElem_cons_succ, List.getElem_cons_zero, List.setIfInBounds_toArray, List.set_cons_zero, List.set_cons_succ])
  refine takeH (i := 14) (v := ?_) rfl (by kernel_rfl) (fun _ _ _ h => h) (Or.inl ⟨by kernel_rfl, ?_⟩) (by assumption) ?_; rotate_left; (focus (intro w hSw; (try dsimp only at hSw); go_simp; (try with_reducible rfl); done)); (try simp only [Act.put, List.getElem_toArray, List.getElem_cons_succ, List.getElem_cons_zero, List.setIfInBounds_toArray, List.set_cons_zero, List.set_cons_succ])
  refine takeF (i := 16) (v := ?_) rfl (by kernel_rfl) (fun _ _ _ h => h) (Or.inl ⟨by kernel_rfl, ?_⟩) (by assumption) ?_; rotate_left; (focus (intro w _; go_simp; (try with_reducible rfl); done)); (try simp only [Act.put, List.getElem_toArray, List.getElem_cons_succ, List.getElem_cons_zero, List.setIfInBounds_toArray, List.set_cons_zero, List.set_cons_succ])
  refine takeH (i := 17) (v := ?_) rfl (by kernel_rfl) (fun _ _ _ h => h) (Or.inl ⟨by kernel_rfl, ?_⟩) (by assumption) ?_; rotate_left; (focus (intro w hSw; (try dsimp only at hSw); go_simp; (try with_reducible rfl); done)); (try simp only [Act.put, List.getElem_toArray, List.getElem_cons_succ, List.getElem_cons_zero, List.setIfInBounds_toArray, List.set_cons_zero, List.set_cons_succ])
  refine takeF (i := 18) (v := ?_) rfl (by kernel_rfl) (fun _ _ _ h => h) (Or.inl ⟨by kernel_rfl, ?_⟩) (by assumption) ?_; rotate_left; (focus (intro w _; go_simp; (try with_reducible rfl); done)); (try simp only [Act.put, List.getElem_toArray, List.getElem_cons_succ, List.getElem_cons_zero, List.setIfInBounds_toArray, List.set_cons_zero, List.set_cons_succ])
  refine takeH (i := 19) (v := ?_) rfl (by kernel_rfl) (fun _ _ _ h => h) (Or.inl ⟨by kernel_rfl, ?_⟩) (by assumption) ?_; rotate_left; (focus (intro w hSw; (try dsimp only at hSw); go_simp; (try with_reducible rfl); done)); (try simp only [Act.put, List.getElem_toArray, List.getElem_cons_succ, List.getElem_cons_zero, List.setIfInBounds_toArray, List.set_cons_zero, List.set_cons_succ])
  clear hHeld0
  refine readyS (rs := [4]) (by kernel_rfl) (by simp) ?_
  refine ReadyS.consH rfl (fun K hK => ?_) ReadyS.nil
  (try simp only [List.getElem_toArray, List.getElem_cons_succ, List.getElem_cons_zero])
  go_simp
  (with_reducible refine (HN.out.1.1 _).mono ?_); rintro e W1 ⟨rfl, hw⟩
  subst hw
  refine hK.out _ _ (HQ.out _ HD.out) (fun hHeld => ?_)
  clear hK K
  (try simp only [Act.put, List.getElem_toArray, List.getElem_cons_succ, List.getElem_cons_zero, List.setIfInBounds_toArray, List.set_cons_zero, List.set_cons_succ])
  clear hHeld
  refine readyS (rs := [9]) (by kernel_rfl) (by simp) ?_
  refine ReadyS.consH rfl (fun K hK => ?_) ReadyS.nil
  (try simp only [List.getElem_toArray, List.getElem_cons_succ, List.getElem_cons_zero])
  go_simp
  (with_reducible refine (HN.out.1.2 _).mono ?_); rintro e W1 ⟨rfl, hw⟩
  subst hw
  refine hK.out _ _ (HQ.out _ HD.out) (fun hHeld => ?_)
  clear hK K
  (try simp only [Act.put, List.getElem_toArray, List.getElem_cons_succ, List.getElem_cons_zero, List.setIfInBounds_toArray, List.set_cons_zero, List.set_cons_succ])
  clear hHeld
  refine readyS (rs := [10]) (by kernel_rfl) (by simp) ?_
  refine ReadyS.consH rfl (fun K hK => ?_) ReadyS.nil
  (try simp only [List.getElem_toArray, List.getElem_cons_succ, List.getElem_cons_zero])
  go_simp
  (with_reducible refine (HN.out.2.1 _).mono ?_); rintro e W1 ⟨rfl, hw⟩
  subst hw
  refine hK.out _ _ (HQ.out _ HD.out) (fun hHeld => ?_)
  clear hK K
  (try simp only [Act.put, List.getElem_toArray, List.getElem_cons_succ, List.getElem_cons_zero, List.setIfInBounds_toArray, List.set_cons_zero, List.set_cons_succ])
  clear hHeld
  refine readyS (rs := [15]) (by kernel_rfl) (by simp) ?_
  refine ReadyS.consH rfl (fun K hK => ?_) ReadyS.nil
  (try simp only [List.getElem_toArray, List.getElem_cons_succ, List.getElem_cons_zero])
  go_simp
  (with_reducible refine (HN.out.2.2.1 _).mono ?_); rintro e W2 ⟨rfl, hw⟩
  subst hw
  refine hK.out _ _ (HQ.out _ HD.out) (fun hHeld => ?_)
  clear hK K
  (try simp only [Act.put, List.getElem_toArray, List.getElem_cons_succ, List.getElem_cons_zero, List.setIfInBounds_toArray, List.set_cons_zero, List.set_cons_succ])
  clear hHeld
  refine readyS (rs := [20]) (by kernel_rfl) (by simp) ?_
  refine ReadyS.consH rfl (fun K hK => ?_) ReadyS.nil
  (try simp only [List.getElem_toArray, List.getElem_cons_succ, List.getElem_cons_zero])
  go_simp
  (with_reducible refine (HN.out.2.2.2 _).mono ?_); rintro e W3 ⟨rfl, hw⟩
  subst hw
  refine hK.out _ _ (HQ.out _ HD.out) (fun hHeld => ?_)
  clear hK K
  (try simp only [Act.put, List.getElem_toArray, List.getElem_cons_succ, List.getElem_cons_zero, List.setIfInBounds_toArray, List.set_cons_zero, List.set_cons_succ])
  clear hHeld
  refine readyS (rs := [21]) (by kernel_rfl) (by simp) ?_
  refine ReadyS.consH rfl (fun K hK => ?_) ReadyS.nil
  (try simp only [List.getElem_toArray, List.getElem_cons_succ, List.getElem_cons_zero])
  go_simp
  have HI := Lib.hid (ird_new3 W1 c1 c2 c3)
  have HD2 := Lib.hid (below_alloc HD.out (.cells #[.int .i64 c1, .int .i64 c2, .int .i64 c3] 3))
  have HL := Lib.hid (show [c1, c2, c3].length ≤ 100 by simp)
  refine hK.out _ _ (HQ.out _ HD2.out) (fun hHeld => ?_)
  clear hK K
  (try simp only [Act.put, List.getElem_toArray, List.getElem_cons_succ, List.getElem_cons_zero, List.setIfInBounds_toArray, List.set_cons_zero, List.set_cons_succ])
  generalize (World.alloc W1 _) = Wd at *
  clear hHeld
  refine readyS (rs := [22]) (by kernel_rfl) (by simp) ?_
  refine ReadyS.consH rfl (fun K hK => ?_) ReadyS.nil
  (try simp only [List.getElem_toArray, List.getElem_cons_succ, List.getElem_cons_zero])
  go_simp
  (with_reducible refine (or_ok _ _ _ HI.out HL.out).mono ?_); rintro e W4 ⟨rfl, hw⟩
  subst hw
  refine hK.out _ _ (HQ.out _ HD2.out) (fun hHeld => ?_)
  clear hK K
  (try simp only [Act.put, List.getElem_toArray, List.getElem_cons_succ, List.getElem_cons_zero, List.setIfInBounds_toArray, List.set_cons_zero, List.set_cons_succ])
  refine takeF (i := 23) (v := ?_) rfl (by kernel_rfl) (fun _ _ _ h => h) (Or.inl ⟨by kernel_rfl, ?_⟩) (by assumption) ?_; rotate_left; (focus (intro w _; go_simp; (try with_reducible rfl); done)); (try simp only [Act.put, List.getElem_toArray, List.getElem_cons_succ, List.getElem_cons_zero, List.setIfInBounds_toArray, List.set_cons_zero, List.set_cons_succ])
  clear hHeld
  refine doneS (by kernel_rfl) ?_ _
  go_wp2
  go_ret
  exact ⟨rfl, below_up HG.out.2.2 HD2.out⟩
def FineZ (x : PtS) : Prop := x.x < 4294967296 ∧ x.y < 4294967296
theorem zless_ok (x y : PtS) (hx : FineZ x) (hy : FineZ y) (w : World) : Calls Try.prog 48 #[pv x, pv y] w fun e w' => e = .returned (.bool (ltc cmZ x y)) ∧ Below w.heap.size w w' := by
  have hc := fun (W : World) => zcompare_ok x y hx hy W
  unfold ltc
  generalize cmZ x y = c at *
  have HC := Lib.hid hc
  have HB := Lib.hid (below_alloc (below_alloc1 w (.cells (c4 x) 93)) (.cells (c4 y) 93))
  clear hc
  obtain ⟨xi, xx, xy, xd⟩ := x
  obtain ⟨yi, yx, yy, yd⟩ := y
  go_enter Try.func48, Try.ntmps48
  go_wp2_with fail
  (with_reducible refine (HC.out _).mono ?_); rintro e w1 ⟨rfl, hb⟩
  have H1 := Lib.hid (below_up HB.out hb)
  clear hb
  go_wp2
  go_ret
  exact ⟨rfl, H1.out⟩
end Go.Proofs.Ytjikndfpkhgnkaa.St
