/- The walks over (*Grove).Put, Drop. -/
import Derived.Test.YtjhhknkhgilecaaGv2
namespace Go.Proofs.Ytjhhknkhgilecaa.Gv
open Go.RowKit Lt Pt Rg Nd Mp
set_option linter.unusedVariables false
set_option linter.unusedSimpArgs false
def updN (m : Int → Option NdS) (a : Int) (x : Option NdS) : Int → Option NdS := fun c => if c = a then x else m c
theorem updN_map (m : Int → Option NdS) (a : Int) (x : Option NdS) : (fun c => (updN m a x c).map fun y => nv y) = upd (fun c => (m c).map fun y => nv y) a (x.map fun y => nv y) := by
  funext c
  unfold updN upd
  split <;> rfl
/-- A node of x's make, in memory of its own. -/
def OwnOf (W : World) (base : Nat) (x y : NdS) : Prop := ∃ v', y = { x with v := v' } ∧ W.ownsRow base 41 4 v' x.pts.length (x.pts.flatMap PtS.cells)
theorem OwnOf.prd {W : World} {base : Nat} {x y : NdS} (h : OwnOf W base x y) : PRd W y.v y.pts := by
  obtain ⟨v', rfl, ho⟩ := h
  exact srd_own PtS.cells_len (by decide) ho
noncomputable def putE (x : NdS) (id : Int) : Int := if mayB x = false then 9 else if id < 1 ∨ 256 ≤ id then 4 else 0
set_option maxHeartbeats 4000000 in
set_option maxRecDepth 100000 in
theorem put_err {W : World} {p b n : Nat} {m : Int → Option NdS} (h : GvAt W p b n m) (id : Int) (x : NdS) (hx : PRd W x.v x.pts) (hl : x.pts.length ≤ 140737488355328) (he : putE x id ≠ 0) :
    Calls Try.prog 100 #[.pointer (some ⟨p, 0, none⟩), .int .i64 id, nv x] W fun e w' => e = .returned (.int .i64 (putE x id)) ∧ Below W.heap.size W w' := by
  have q1 := alloc_at (w := W) (.cells (ncells x) 159) rfl
  have qb := below_alloc1 W (.cells (ncells x) 159)
  have HIs := Lib.hid (is_ok (h.up qb).1)
  have hck := check_ok x _ (hx.below qb) hl
  have HB := Lib.hid qb
  have hn := nd_all q1
  unfold putE at he ⊢
  have hx2 := hx
  obtain ⟨A, c, hv, _, _⟩ := hx2
  cases hm : mayB x
  · rw [hm] at hck
    simp only [if_true, Bool.false_eq_true, if_false] at hck ⊢
    have HCk := Lib.hid hck
    clear q1 qb hck h he hm
    obtain ⟨lf, v, pts, next, ks, cs⟩ := x
    simp only at HCk HB hn hx hv
    subst hv
    go_enter Try.func100, Try.ntmps100
    go_wp2_with fail
    (with_reducible refine HIs.out.mono ?_); rintro e w1 ⟨rfl, rfl⟩
    go_wp2_with fail
    generalize World.alloc W _ = w1 at *
    (with_reducible refine HCk.out.mono ?_); rintro e w2 ⟨rfl, hb⟩
    have H2 := Lib.hid (below_up HB.out hb)
    clear hb hn
    go_wp2
    go_ret
    exact ⟨rfl, H2.out⟩
  · rw [hm] at hck he
    simp only [Bool.true_eq_false, if_false, if_true] at hck he ⊢
    have HCk := Lib.hid hck
    clear q1 qb hck h hm
    obtain ⟨lf, v, pts, next, ks, cs⟩ := x
    simp only at HCk HB hn hx hv
    subst hv
    by_cases h1 : id < 1
    · rw [if_pos (.inl h1)]
      have d1 : decide (id < 1) = true := decide_eq_true h1
      clear he
      go_enter Try.func100, Try.ntmps100
      go_wp2_with fail
      (with_reducible refine HIs.out.mono ?_); rintro e w1 ⟨rfl, rfl⟩
      go_wp2_with fail
      generalize World.alloc W _ = w1 at *
      (with_reducible refine HCk.out.mono ?_); rintro e w2 ⟨rfl, hb⟩
      have H2 := Lib.hid (below_up HB.out hb)
      clear hb hn
      go_wp2
      go_ret
      exact ⟨rfl, H2.out⟩
    · have h2 : 256 ≤ id := by
        rcases Int.lt_or_le id 256 with h2 | h2
        · exact absurd (if_neg (by omega)) he
        · exact h2
      rw [if_pos (.inr h2)]
      have d1 : decide (id < 1) = false := decide_eq_false h1
      have d2 : decide (id ≥ 256) = true := decide_eq_true h2
      clear he
      go_enter Try.func100, Try.ntmps100
      go_wp2_with fail
      (with_reducible refine HIs.out.mono ?_); rintro e w1 ⟨rfl, rfl⟩
      go_wp2_with fail
      generalize World.alloc W _ = w1 at *
      (with_reducible refine HCk.out.mono ?_); rintro e w2 ⟨rfl, hb⟩
      have H2 := Lib.hid (below_up HB.out hb)
      clear hb hn
      go_wp2
      go_ret
      exact ⟨rfl, H2.out⟩
set_option maxHeartbeats 4000000 in
set_option maxRecDepth 100000 in
theorem put_ok {W : World} {p b n : Nat} {m : Int → Option NdS} (h : GvAt W p b n m) (id : Int) (x : NdS) (hx : PRd W x.v x.pts) (hl : x.pts.length ≤ 140737488355328) (he : putE x id = 0) (hn : n ≤ 1000000) :
    Calls Try.prog 100 #[.pointer (some ⟨p, 0, none⟩), .int .i64 id, nv x] W fun e w' => e = .returned (.int .i64 0) ∧ ∃ y, GvAt w' p b (n + 1) (updN m id (some y)) ∧ OwnOf w' W.heap.size x y ∧ Fr (fun k => k = b) W w' := by
  have hm : mayB x = true := by
    unfold putE at he
    cases hm : mayB x
    · rw [hm] at he; simp at he
    · rfl
  have hid : 1 ≤ id ∧ id < 256 := by
    unfold putE at he
    rw [hm] at he
    simp only [Bool.true_eq_false, if_false] at he
    rcases Int.lt_or_le id 1 with h1 | h1
    · rw [if_pos (.inl h1)] at he; cases he
    · rcases Int.lt_or_le id 256 with h2 | h2
      · exact ⟨h1, h2⟩
      · rw [if_pos (.inr h2)] at he; cases he
  clear he
  have hl4 : x.pts.length ≤ 4 := by
    have := (mayB_iff x).1 hm
    unfold May at this
    split at this
    · exact this.1.2
    · rw [this.1]; decide
  have q1 := alloc_at (w := W) (.cells (ncells x) 159) rfl
  have qb := below_alloc1 W (.cells (ncells x) 159)
  have HIs := Lib.hid (is_ok (h.up qb).1)
  have hck := check_ok x _ (hx.below qb) hl
  have HB := Lib.hid qb
  have hn' := nd_all q1
  have HG := Lib.hid h
  have HX := Lib.hid hx
  have Hq1 := Lib.hid q1
  have hx2 := hx
  obtain ⟨A, c, hv, _, _⟩ := hx2
  rw [hm] at hck
  simp only [if_true] at hck
  have HCk := Lib.hid hck
  have d1 : decide (id < 1) = false := decide_eq_false (by omega)
  have d2 : decide (id ≥ 256) = false := decide_eq_false (by omega)
  clear q1 qb hck h hm hx
  obtain ⟨lf, v, pts, next, ks, cs⟩ := x
  simp only at HCk HB hn' hv HX Hq1 hl hl4
  subst hv
  go_enter Try.func100, Try.ntmps100
  go_wp2_with fail
  (with_reducible refine HIs.out.mono ?_); rintro e w1 ⟨rfl, rfl⟩
  go_wp2_with fail
  generalize World.alloc W _ = w1 at *
  (with_reducible refine HCk.out.mono ?_); rintro e w2 ⟨rfl, hb⟩
  have H2 := Lib.hid (below_up HB.out hb)
  have Hq2 := Lib.hid (block_up Hq1.out hb)
  clear hb hn'
  go_upto_region 5 with (fail)
  have HQ : Hid (∀ W', Below w2.heap.size w2 W' → (W'.cell? ⟨p, 0, none⟩ = some (.map (some b))) ∧ (W'.cell? ⟨W.heap.size, 0, none⟩ = some (.bool lf) ∧ W'.cell? ⟨W.heap.size, 1, none⟩ = some (.slice A pts.length c) ∧ W'.cell? ⟨W.heap.size, 2, none⟩ = some (.int .i64 next) ∧ W'.cell? ⟨W.heap.size, 3, none⟩ = some (.int .i64 (ks 0)) ∧ W'.cell? ⟨W.heap.size, 4, none⟩ = some (.int .i64 (ks 1)) ∧ W'.cell? ⟨W.heap.size, 5, none⟩ = some (.int .i64 (ks 2)) ∧ W'.cell? ⟨W.heap.size, 6, none⟩ = some (.int .i64 (ks 3)) ∧ W'.cell? ⟨W.heap.size, 7, none⟩ = some (.int .i64 (cs 0)) ∧ W'.cell? ⟨W.heap.size, 8, none⟩ = some (.int .i64 (cs 1)) ∧ W'.cell? ⟨W.heap.size, 9, none⟩ = some (.int .i64 (cs 2)) ∧ W'.cell? ⟨W.heap.size, 10, none⟩ = some (.int .i64 (cs 3))) ∧ Below w2.heap.size w2 W') := Lib.hid (fun W' hb =>
    ⟨by rw [cell_block (HG.out.up (below_up H2.out hb)).1]; rfl, nd_all (n := ⟨lf, .slice A pts.length c, pts, next, ks, cs⟩) (block_up Hq2.out hb), hb⟩)
  refine beginS (S := fun W' => (W'.cell? ⟨p, 0, none⟩ = some (.map (some b))) ∧ (W'.cell? ⟨W.heap.size, 0, none⟩ = some (.bool lf) ∧ W'.cell? ⟨W.heap.size, 1, none⟩ = some (.slice A pts.length c) ∧ W'.cell? ⟨W.heap.size, 2, none⟩ = some (.int .i64 next) ∧ W'.cell? ⟨W.heap.size, 3, none⟩ = some (.int .i64 (ks 0)) ∧ W'.cell? ⟨W.heap.size, 4, none⟩ = some (.int .i64 (ks 1)) ∧ W'.cell? ⟨W.heap.size, 5, none⟩ = some (.int .i64 (ks 2)) ∧ W'.cell? ⟨W.heap.size, 6, none⟩ = some (.int .i64 (ks 3)) ∧ W'.cell? ⟨W.heap.size, 7, none⟩ = some (.int .i64 (cs 0)) ∧ W'.cell? ⟨W.heap.size, 8, none⟩ = some (.int .i64 (cs 1)) ∧ W'.cell? ⟨W.heap.size, 9, none⟩ = some (.int .i64 (cs 2)) ∧ W'.cell? ⟨W.heap.size, 10, none⟩ = some (.int .i64 (cs 3))) ∧ Below w2.heap.size w2 W') [7] (by kernel_rfl) (HQ.out _ below_drew1) (fun hHeld0 => ?_)
  have H3 := Lib.hid (below_up H2.out (below_drew1 (w := w2)))
  have HD := Lib.hid (below_drew1 (w := w2))
  generalize (World.drew w2) = W0 at *
  refine takeF (i := 0) (v := ?_) rfl (by kernel_rfl) (fun _ _ _ h => h) (Or.inl ⟨by kernel_rfl, ?_⟩) (by assumption) ?_; rotate_left; (focus (intro w _; go_simp; (try with_reducible rfl); done)); (try simp only [Act.put, List.getElem_toArray, List.getElem_cons_succ, List.getElem_cons_zero, List.setIfInBounds_toArray, List.set_cons_zero, List.set_cons_succ])
  refine takeF (i := 1) (v := ?_) rfl (by kernel_rfl) (fun _ _ _ h => h) (Or.inl ⟨by kernel_rfl, ?_⟩) (by assumption) ?_; rotate_left; (focus (intro w _; go_simp; (try with_reducible rfl); done)); (try simp only [Act.put, List.getElem_toArray, List.getElem_cons_succ, List.getElem_cons_zero, List.setIfInBounds_toArray, List.set_cons_zero, List.set_cons_succ])
  refine takeF (i := 2) (v := ?_) rfl (by kernel_rfl) (fun _ _ _ h => h) (Or.inl ⟨by kernel_rfl, ?_⟩) (by assumption) ?_; rotate_left; (focus (intro w _; go_simp; (try with_reducible rfl); done)); (try simp only [Act.put, List.getElem_toArray, List.getElem_cons_succ, List.getElem_cons_zero, List.setIfInBounds_toArray, List.set_cons_zero, List.set_cons_succ])
  refine takeH (i := 3) (v := ?_) rfl (by kernel_rfl) (fun _ _ _ h => h) (Or.inl ⟨by kernel_rfl, ?_⟩) (by assumption) ?_; rotate_left; (focus (intro w hSw; (try dsimp only at hSw); go_simp; (try with_reducible rfl); done)); (try simp only [Act.put, List.getElem_toArray, List.getElem_cons_succ, List.getElem_cons_zero, List.setIfInBounds_toArray, List.set_cons_zero, List.set_cons_succ])
  refine takeF (i := 4) (v := ?_) rfl (by kernel_rfl) (fun _ _ _ h => h) (Or.inl ⟨by kernel_rfl, ?_⟩) (by assumption) ?_; rotate_left; (focus (intro w _; go_simp; (try with_reducible rfl); done)); (try simp only [Act.put, List.getElem_toArray, List.getElem_cons_succ, List.getElem_cons_zero, List.setIfInBounds_toArray, List.set_cons_zero, List.set_cons_succ])
  refine takeH (i := 5) (v := ?_) rfl (by kernel_rfl) (fun _ _ _ h => h) (Or.inl ⟨by kernel_rfl, ?_⟩) (by assumption) ?_; rotate_left; (focus (intro w hSw; (try dsimp only at hSw); go_simp; (try with_reducible rfl); done)); (try simp only [Act.put, List.getElem_toArray, List.getElem_cons_succ, List.getElem_cons_zero, List.setIfInBounds_toArray, List.set_cons_zero, List.set_cons_succ])
  clear hHeld0
  have HOwn := Lib.hid (gown_ok ⟨lf, .slice A pts.length c, pts, next, ks, cs⟩ W0 (HX.out.below H3.out) (by simp only; omega))
  simp only at HOwn
  refine readyS (rs := [6]) (by kernel_rfl) (by simp) ?_
  refine ReadyS.consH rfl (fun K hK => ?_) ReadyS.nil
  (try simp only [List.getElem_toArray, List.getElem_cons_succ, List.getElem_cons_zero])
  go_simp
  (with_reducible refine HOwn.out.mono ?_); rintro e W1 ⟨v', rfl, ho, hb⟩
  obtain ⟨A', c', rfl, _⟩ := own_rd ho
  have H4 := Lib.hid (below_up H3.out hb)
  have HO := Lib.hid (own_lower ho H3.out.size)
  refine hK.out _ _ (HQ.out _ (below_up HD.out hb)) (fun hHeld => ?_)
  clear hK K
  (try simp only [Act.put, List.getElem_toArray, List.getElem_cons_succ, List.getElem_cons_zero, List.setIfInBounds_toArray, List.set_cons_zero, List.set_cons_succ])
  clear hb ho hHeld
  refine readyS (rs := [7]) (by kernel_rfl) (by simp) ?_
  refine ReadyS.consP rfl (by kernel_rfl) (fun K hK => ?_) ReadyS.nil
  (try simp only [List.getElem_toArray, List.getElem_cons_succ, List.getElem_cons_zero])
  rw [if_pos (by kernel_rfl)]
  refine wp_mapset _ _ _ (by rfl) (HG.out.up H4.out).2.1 keyI mapN (by unfold maxLen; omega) (c := id) ⟨by omega, by omega⟩ (nv ⟨lf, .slice A' pts.length c', pts, next, ks, cs⟩) (by rfl) (by rfl) (by rfl) ?_
  intro W2 hM hF
  have HM := Lib.hid hM
  have HF := Lib.hid hF
  clear hM hF
  refine hK.out _ _ ?_
  clear hK K
  (try simp only [Act.put, List.getElem_toArray, List.getElem_cons_succ, List.getElem_cons_zero, List.setIfInBounds_toArray, List.set_cons_zero, List.set_cons_succ])
  refine doneS (by kernel_rfl) ?_ _
  go_wp2
  go_ret
  obtain ⟨es, cl, hbm⟩ := (HG.out.up H4.out).2.1.blk
  have hpr := fun {v l} (hp : PRd W1 v l) => prd_frm hp hbm HF.out
  have hO2 : W2.ownsRow W.heap.size 41 4 (.slice A' pts.length c') pts.length (pts.flatMap PtS.cells) := own_fr HO.out HF.out (fun k hk e => by
    obtain ⟨cs', hcs⟩ := own_typed HO.out k hk
    rw [e] at hcs
    have := hcs.symm.trans hbm
    simp at this)
  refine ⟨rfl, ⟨lf, .slice A' pts.length c', pts, next, ks, cs⟩, ⟨?_, ?_, ?_⟩, ⟨_, rfl, hO2⟩, (Fr.of_below H4.out).trans HF.out (fun _ _ h => h)⟩
  · exact blk_fr (HG.out.up H4.out).1 HF.out (fun e => by have h1 := (HG.out.up H4.out).1; rw [e] at h1; have := h1.symm.trans hbm; simp at this)
  · rw [updN_map]; exact HM.out
  · intro a y hy
    unfold updN at hy
    split at hy
    · cases hy
      exact ⟨srd_own PtS.cells_len (by decide) hO2, by simp only; omega⟩
    · have := (HG.out.up H4.out).2.2 a y hy
      exact ⟨hpr this.1, this.2⟩
end Go.Proofs.Ytjhhknkhgilecaa.Gv
