/- The walks over croftlaw05.less, zorder.Sort. -/
import Derived.Test.YtjikndfpkhgnkaaZs1
namespace Go.Proofs.Ytjikndfpkhgnkaa.St
open Go.RowKit Rg Pt
set_option linter.unusedVariables false
set_option linter.unusedSimpArgs false
set_option maxHeartbeats 4000000 in
set_option maxRecDepth 100000 in
theorem zl_ok (x y : PtS) (hx : FineZ x) (hy : FineZ y) (w : World) : Calls Try.prog 47 #[pv x, pv y] w fun e w' => e = .returned (.bool (ltc cmZ x y)) ∧ Below w.heap.size w w' := by
  obtain ⟨R, hR⟩ : ∃ r, ltc cmZ x y = r := ⟨_, rfl⟩
  rw [hR]
  have hT : ZLt x y → R = true := fun h => by rw [← hR]; exact (ltc_z x y).2 h
  have hF : ¬ ZLt x y → R = false := fun h => by rw [← hR]; exact (ltc_zf x y).2 h
  unfold ZLt at hT hF
  have j1 := fun (W : World) => Zw.join_ok x.x x.y W hx.1 hx.2
  have j2 := fun (W : World) => Zw.join_ok y.x y.y W hy.1 hy.2
  have e1 : Zm.joinN x.x x.y = jn x := rfl
  have e2 : Zm.joinN y.x y.y = jn y := rfl
  rw [e1] at j1
  rw [e2] at j2
  generalize jn x = X at *
  generalize jn y = Y at *
  have HN := Lib.hid (And.intro j1 j2)
  have HTF := Lib.hid (And.intro hT hF)
  clear j1 j2 e1 e2 hR hT hF
  have hg1 := alloc_at (w := w) (.cells (c4 x) 93) rfl
  have hb1 := below_alloc1 w (.cells (c4 x) 93)
  have hw1 : (w.alloc (.cells (c4 x) 93)).heap.size = w.heap.size + 1 := by unfold World.alloc; simp
  have hg2 := alloc_at (w := w.alloc (.cells (c4 x) 93)) (.cells (c4 y) 93) hw1.symm
  have hg1' := alloc_old hg1 (.cells (c4 y) 93)
  have hb2 := below_alloc hb1 (.cells (c4 y) 93)
  have HG := Lib.hid (And.intro hg1' (And.intro hg2 hb2))
  clear hg1 hb1 hw1 hg2 hg1' hb2
  go_enter Try.func47, Try.ntmps47
  go_upto_region 1 with (fail)
  generalize ((w.alloc _).alloc _) = w0 at *
  have HQ : Hid (∀ W, Below w0.heap.size w0 W → At0 W w.heap.size x ∧ At0 W (w.heap.size + 1) y) := Lib.hid (fun W hb => ⟨at0_of (block_up HG.out.1 hb), at0_of (block_up HG.out.2.1 hb)⟩)
  have HD := Lib.hid (below_drew1 (w := w0))
  refine beginS (S := fun W => At0 W w.heap.size x ∧ At0 W (w.heap.size + 1) y) [] (by kernel_rfl) (HQ.out _ HD.out) (fun hHeld0 => ?_)
  generalize (World.drew w0) = W0 at *
  refine takeF (i := 0) (v := ?_) rfl (by kernel_rfl) (fun _ _ _ h => h) (Or.inl ⟨by kernel_rfl, ?_⟩) (by assumption) ?_; rotate_left; (focus (intro w _; go_simp; (try with_reducible rfl); done)); (try simp only [Act.put, List.getElem_toArray, List.getElem_cons_succ, List.getElem_cons_zero, List.setIfInBounds_toArray, List.set_cons_zero, List.set_cons_succ])
  refine takeH (i := 1) (v := ?_) rfl (by kernel_rfl) (fun _ _ _ h => h) (Or.inl ⟨by kernel_rfl, ?_⟩) (by assumption) ?_; rotate_left; (focus (intro w hSw; (try dsimp only at hSw); go_simp; (try with_reducible rfl); done)); (try simp only [Act.put, List.getElem_toArray, List.getElem_cons_succ, List.getElem_cons_zero, List.setIfInBounds_toArray, List.set_cons_zero, List.set_cons_succ])
  refine takeF (i := 2) (v := ?_) rfl (by kernel_rfl) (fun _ _ _ h => h) (Or.inl ⟨by kernel_rfl, ?_⟩) (by assumption) ?_; rotate_left; (focus (intro w _; go_simp; (try with_reducible rfl); done)); (try simp only [Act.put, List.getElem_toArray, List.getElem_cons_succ, List.getElem_cons_zero, List.setIfInBounds_toArray, List.set_cons_zero, List.set_cons_succ])
  refine takeH (i := 3) (v := ?_) rfl (by kernel_rfl) (fun _ _ _ h => h) (Or.inl ⟨by kernel_rfl, ?_⟩) (by assumption) ?_; rotate_left; (focus (intro w hSw; (try dsimp only at hSw); go_simp; (try with_reducible rfl); done)); (try simp only [Act.put, List.getElem_toArray, List.getElem_cons_succ, List.getElem_cons_zero, List.setIfInBounds_toArray, List.set_cons_zero, List.set_cons_succ])
  refine takeF (i := 5) (v := ?_) rfl (by kernel_rfl) (fun _ _ _ h => h) (Or.inl ⟨by kernel_rfl, ?_⟩) (by assumption) ?_; rotate_left; (focus (intro w _; go_simp; (try with_reducible rfl); done)); (try simp only [Act.put, List.getElem_toArray, List.getElem_cons_succ, List.getElem_cons_zero, List.setIfInBounds_toArray, List.set_cons_zero, List.set_cons_succ])
  refine takeH (i := 6) (v := ?_) rfl (by kernel_rfl) (fun _ _ _ h => h) (Or.inl ⟨by kernel_rfl, ?_⟩) (by assumption) ?_; rotate_left; (focus (intro w hSw; (try dsimp only at hSw); go_simp; (try with_reducible rfl); done)); (try simp only [Act.put, List.getElem_toArray, List.getElem_cons_succ, List.getElem_cons_zero, List.setIfInBounds_toArray, List.set_cons_zero, List.set_cons_succ])
  refine takeF (i := 7) (v := ?_) rfl (by kernel_rfl) (fun _ _ _ h => h) (Or.inl ⟨by kernel_rfl, ?_⟩) (by assumption) ?_; rotate_left; (focus (intro w _; go_simp; (try with_reducible rfl); done)); (try simp only [Act.put, List.getElem_toArray, List.getElem_cons_succ, List.getElem_cons_zero, List.setIfInBounds_toArray, List.set_cons_zero, List.set_cons_succ])
  refine takeH (i := 8) (v := ?_) rfl (by kernel_rfl) (fun _ _ _ h => h) (Or.inl ⟨by kernel_rfl, ?_⟩) (by assumption) ?_; rotate_left; (focus (intro w hSw; (try dsimp only at hSw); go_simp; (try with_reducible rfl); done)); (try simp only [Act.put, List.getElem_toArray, List.getElem_cons_succ, List.getElem_cons_zero, List.setIfInBounds_toArray, List.set_cons_zero, List.set_cons_succ])
  clear hHeld0
  refine readyS (rs := [4]) (by kernel_rfl) (by simp) ?_
  refine ReadyS.consH rfl (fun K hK => ?_) ReadyS.nil
  (try simp only [List.getElem_toArray, List.getElem_cons_succ, List.getElem_cons_zero])
  go_simp
  (with_reducible refine (HN.out.1 _).mono ?_); rintro e W1 ⟨rfl, hw⟩
  subst hw
  refine hK.out _ _ (HQ.out _ HD.out) (fun hHeld => ?_)
  clear hK K
  (try simp only [Act.put, List.getElem_toArray, List.getElem_cons_succ, List.getElem_cons_zero, List.setIfInBounds_toArray, List.set_cons_zero, List.set_cons_succ])
  clear hHeld
  refine readyS (rs := [9]) (by kernel_rfl) (by simp) ?_
  refine ReadyS.consH rfl (fun K hK => ?_) ReadyS.nil
  (try simp only [List.getElem_toArray, List.getElem_cons_succ, List.getElem_cons_zero])
  go_simp
  (with_reducible refine (HN.out.2 _).mono ?_); rintro e W1 ⟨rfl, hw⟩
  subst hw
  refine hK.out _ _ (HQ.out _ HD.out) (fun hHeld => ?_)
  clear hK K
  (try simp only [Act.put, List.getElem_toArray, List.getElem_cons_succ, List.getElem_cons_zero, List.setIfInBounds_toArray, List.set_cons_zero, List.set_cons_succ])
  refine takeF (i := 10) (v := ?_) rfl (by kernel_rfl) (fun _ _ _ h => h) (Or.inl ⟨by kernel_rfl, ?_⟩) (by assumption) ?_; rotate_left; (focus (intro w _; go_simp; (try with_reducible rfl); done)); (try simp only [Act.put, List.getElem_toArray, List.getElem_cons_succ, List.getElem_cons_zero, List.setIfInBounds_toArray, List.set_cons_zero, List.set_cons_succ])
  refine takeF (i := 11) (v := ?_) rfl (by kernel_rfl) (fun _ _ _ h => h) (Or.inl ⟨by kernel_rfl, ?_⟩) (by assumption) ?_; rotate_left; (focus (intro w _; go_simp; (try with_reducible rfl); done)); (try simp only [Act.put, List.getElem_toArray, List.getElem_cons_succ, List.getElem_cons_zero, List.setIfInBounds_toArray, List.set_cons_zero, List.set_cons_succ])
  clear hHeld
  refine doneS (by kernel_rfl) ?_ _
  obtain ⟨⟨x0, x1, x2, x3⟩, ⟨y0, y1, y2, y3⟩⟩ := HQ.out _ HD.out
  have HB := Lib.hid (below_up HG.out.2.2 HD.out)
  rcases Nat.lt_trichotomy X Y with h | h | h
  · obtain rfl := HTF.out.1 (.inl h)
    have d1 : decide ((X : Int) < Y) = true := decide_eq_true (by omega)
    have d1n : decide (X < Y) = true := decide_eq_true h
    go_wp2
    go_ret
    exact ⟨rfl, HB.out⟩
  · subst h
    have d1 : decide ((X : Int) < X) = false := decide_eq_false (by omega)
    have d1n : decide (X < X) = false := decide_eq_false (by omega)
    rcases (by omega : x.id < y.id ∨ x.id = y.id ∨ y.id < x.id) with h2 | h2 | h2
    · obtain rfl := HTF.out.1 (.inr ⟨rfl, .inl h2⟩)
      have d2 : decide (x.id < y.id) = true := decide_eq_true h2
      go_wp2
      go_ret
      exact ⟨rfl, HB.out⟩
    · have d2 : decide (x.id < y.id) = false := decide_eq_false (by omega)
      have d3 : (x.id == y.id) = true := by rw [beq_iff_eq]; exact h2
      have d2' : ¬ x.id < y.id := by omega
      cases hb : bl x.d.toList y.d.toList with
      | true =>
        obtain rfl := HTF.out.1 (.inr ⟨rfl, .inr ⟨h2, hb⟩⟩)
        have d4 : Op.bytesLess x.d.toList y.d.toList = true := hb
        clear hb h2
        go_wp2
        go_ret
        exact ⟨ret_bool (by simp_all), HB.out⟩
      | false =>
        obtain rfl := HTF.out.2 (fun hh => by
          rcases hh with hh | ⟨_, hh | ⟨_, hh⟩⟩
          · omega
          · omega
          · rw [hb] at hh; cases hh)
        have d4 : Op.bytesLess x.d.toList y.d.toList = false := hb
        clear hb h2
        go_wp2
        go_ret
        exact ⟨ret_bool (by simp_all), HB.out⟩
    · obtain rfl := HTF.out.2 (fun hh => by omega)
      have d2 : decide (x.id < y.id) = false := decide_eq_false (by omega)
      have d2' : ¬ x.id < y.id := by omega
      have d3 : (x.id == y.id) = false := by rw [beq_eq_false_iff_ne]; omega
      have d3' : ¬ x.id = y.id := by omega
      go_wp2
      go_ret
      exact ⟨ret_bool (by simp_all), HB.out⟩
  · obtain rfl := HTF.out.2 (fun hh => by omega)
    have d1 : decide ((X : Int) < Y) = false := decide_eq_false (by omega)
    have d1n : decide (X < Y) = false := decide_eq_false (by omega)
    have d2 : ((X : Int) == Y) = false := by rw [beq_eq_false_iff_ne]; omega
    have d2n : (X == Y) = false := by rw [beq_eq_false_iff_ne]; omega
    have d3 : ¬ X = Y := by omega
    go_wp2
    go_ret
    exact ⟨ret_bool (by simp_all), HB.out⟩
/-- Sorted by place, Id, Data. -/
def byZ (L : List PtS) : List PtS := L.mergeSort (fun a b => !ltc cmZ b a)
theorem byZ_len (l : List PtS) : (byZ l).length = l.length := sort_len l
theorem cmz_ok : CmpOk 60 #[] (fun _ => True) FineZ cmZ := fun x y W ox oy _ => zcompare_ok x y ox oy W
theorem runs_z : RunsF 60 := fun args W => by go_simp
set_option maxHeartbeats 4000000 in
set_option maxRecDepth 100000 in
theorem zsort_ok (v : Value) (L : List PtS) (hf : ∀ x ∈ L, FineZ x) (w : World) (h : PRow w v L) (hl : L.length ≤ 4398046511104) :
    Calls Try.prog 50 #[v] w fun e w' => ∃ v', e = .returned v' ∧ w'.ownsRow w.heap.size 93 4 v' L.length ((byZ L).flatMap PtS.cells) ∧ Below w.heap.size w w' := by
  have HCl := Lib.hid (pclone_ok v L w h hl)
  clear h
  go_enter Try.func50, Try.ntmps50
  go_wp2_with fail
  (with_reducible refine HCl.out.mono ?_); rintro e w1 ⟨v', rfl, hO, hb⟩
  have HB := Lib.hid hb
  have HO := Lib.hid hO
  clear hb
  rcases hO.2 with ⟨rfl, hl0⟩ | ⟨g, cap, cur, rfl, hbg, _⟩
  · obtain rfl : L = [] := List.eq_nil_of_length_eq_zero hl0
    clear hO
    have HN := fun vf W => sort_nil vf W
    go_wp2_with fail
    (with_reducible refine (HN _ _).mono ?_); rintro e w2 ⟨rfl, rfl⟩
    go_wp2
    go_ret
    exact ⟨_, rfl, by rw [show byZ [] = [] by simp [byZ]]; exact HO.out, HB.out⟩
  · have HS := Lib.hid (sort_ok cmz_ok swo_z (fun _ _ _ _ => trivial) runs_z w1 trivial L hf hl hO)
    have HG := Lib.hid hbg
    clear hO hbg
    go_wp2_with fail
    (with_reducible refine HS.out.mono ?_); rintro e w2 ⟨rfl, hO2, hF2⟩
    have HO2 := Lib.hid hO2
    have HF2 := Lib.hid hF2
    clear hO2 hF2
    go_wp2
    go_ret
    exact ⟨_, rfl, HO2.out, ((Fr.of_below (S := fun k => w.heap.size ≤ k) HB.out).trans HF2.out (fun k _ h => by subst h; exact HG.out)).toBelow (fun _ h => h) (Nat.le_refl _)⟩
end Go.Proofs.Ytjikndfpkhgnkaa.St
