/- The walks over node.Read, node.Total. -/
import Derived.Test.YthpnlgdcijmocaaNd8
namespace Go.Proofs.Ythpnlgdcijmocaa.Nd
open Go.RowKit Lt Pt Rg
set_option linter.unusedVariables false
set_option linter.unusedSimpArgs false
theorem body_len (K : Nat) (s : InS) : (bodyD K s).1.pts.length ≤ 255 := by
  by_cases hk : K = 1
  · subst hk
    unfold bodyD
    rw [if_pos rfl]
    show (rdTo _ _).1.length ≤ 255
    rw [rdTo_len]
    exact got1_255 _
  · rw [bodyD_inner hk]
    exact Nat.zero_le _
def ReadE (b : List UInt8) (w w' : World) (e : Ending) : Prop :=
  (∃ d v', ReadsTo b d ∧ e = .returned (.tuple #[nv (d.nd v'), .int .i64 0]) ∧ w'.ownsRow w.heap.size 58 4 v' d.pts.length (d.pts.flatMap PtS.cells)) ∨
  ((∀ d, ¬ ReadsTo b d) ∧ e = .returned (.tuple #[.agg zcN, .int .i64 16]))
set_option maxHeartbeats 8000000 in
set_option maxRecDepth 100000 in
theorem nread_ok (v : Value) (b : List UInt8) (w : World) (hv : BRd w v b) (hl : b.length ≤ 140737488355328) :
    Calls Try.prog 34 #[v] w fun e w' => ReadE b w w' e ∧ Below w.heap.size w w' := by
  have qz := alloc_at (w := w) (.cells zcN 49) rfl
  have qb := below_alloc1 w (.cells zcN 49)
  have hop := open_w v b _ (hv.below qb) hl
  have HOp := Lib.hid hop
  have HZ := Lib.hid qz
  have HB := Lib.hid qb
  have hrd : ∀ d, ReadsTo b d ↔ (getB ((inOk b).got 1) ≤ 1 ∧ d = (bodyD (getB ((inOk b).got 1)) ((inOk b).next 1)).1 ∧ (bodyD (getB ((inOk b).got 1)) ((inOk b).next 1)).2.tells = 0 ∧ (bodyD (getB ((inOk b).got 1)) ((inOk b).next 1)).2.b = [] ∧ d.May) := fun d => Iff.rfl
  have hK := got1_255 (inOk b)
  have hn1 := next_len (inOk b) 1
  have hb0 : (inOk b).b.length = b.length := rfl
  have HB00 := Lib.hid hb0
  obtain ⟨K, hKK⟩ : ∃ K, getB ((inOk b).got 1) = K := ⟨_, rfl⟩
  obtain ⟨s1, hs1⟩ : ∃ z, (inOk b).next 1 = z := ⟨_, rfl⟩
  rw [hKK] at hK
  rw [hs1] at hn1
  simp only [hKK, hs1] at hrd
  have hlb : s1.b.length ≤ b.length := by omega
  have HKK := Lib.hid (And.intro hKK hs1)
  have HRd := Lib.hid hrd
  clear qz qb hop hv hrd hKK hs1 hn1 hb0
  go_enter Try.func34, Try.ntmps34
  go_wp2_with fail
  generalize World.alloc w _ = w1 at *
  (with_reducible refine HOp.out.mono ?_); rintro e w2 ⟨p, rfl, hI2, hb2⟩
  have HI2 : Hid (IW w1 w2 p (inOk b)) := Lib.hid hI2
  clear hI2 hb2
  go_wp2_with fail
  (with_reducible refine (HI2.out.num 1 (by rw [HB00.out]; omega)).mono ?_); rintro e w3 ⟨rfl, hI3, hK3⟩
  rw [sz1] at hI3 ⊢
  rw [HKK.out.1]
  rw [HKK.out.2] at hI3
  have HI3 := Lib.hid hI3
  clear hI3 hK3
  go_wp2_with fail
  (with_reducible refine (nbody_ok HI3.out (by omega) K (by omega)).mono ?_); rintro e w4 ⟨v4, rfl, ho4, hI4⟩
  obtain ⟨A4, c4, rfl, _⟩ := own_rd ho4
  have hbl := body_len K s1
  obtain ⟨d, hd⟩ : ∃ d, (bodyD K s1).1 = d := ⟨_, rfl⟩
  obtain ⟨s2, hs2⟩ : ∃ z, (bodyD K s1).2 = z := ⟨_, rfl⟩
  rw [hd] at ho4 hbl ⊢
  rw [hs2] at hI4
  simp only [hd, hs2] at HRd
  clear hd hs2
  obtain ⟨lf, pts, next, ks, cs⟩ := d
  simp only [NdD.nd] at ho4 ⊢
  simp only at hbl
  have hbx := below_alloc1 w4 (.cells (ncells ⟨lf, .slice A4 pts.length c4, pts, next, ks, cs⟩) 49)
  have HO4 := Lib.hid (own_below ho4 hbx)
  have HI4 := Lib.hid (hI4.up hbx)
  have HX4 := Lib.hid (alloc_at (w := w4) (.cells (ncells ⟨lf, .slice A4 pts.length c4, pts, next, ks, cs⟩) 49) rfl)
  clear ho4 hI4 hbx
  go_wp2_with fail
  generalize w4.heap.size = g6 at *
  generalize World.alloc w4 _ = w5 at *
  have HZ5 := Lib.hid (block_up HZ.out HI4.out.bel)
  have HBf := Lib.hid (below_up HB.out HI4.out.bel)
  have HIz := Lib.hid (And.intro (infoN_nd NdS.zero) (And.intro (holdN_zc NdS.zero) (oneN_nd NdS.zero rfl)))
  have hend : Hid (∀ w8, Fr (fun k => k = w.heap.size) w5 w8 → Below w.heap.size w w8) := Lib.hid (fun w8 hf => ((Fr.of_below (S := fun k => w.heap.size ≤ k) HBf.out).trans hf (fun k _ e => by subst e; exact Nat.le_refl _)).toBelow (fun _ h => h) (Nat.le_refl _))
  refine HI4.out.err.mono ?_; rintro e w6 ⟨rfl, rfl⟩
  obtain ⟨E, hE⟩ : ∃ E, s2.tells = E := ⟨_, rfl⟩
  rw [hE]
  by_cases he0 : E = 0
  · subst he0
    go_wp2_with fail
    refine HI4.out.left.mono ?_; rintro e w6 ⟨rfl, rfl⟩
    by_cases hb0 : s2.b = []
    · rw [hb0, List.length_nil]
      by_cases hk1 : K ≤ 1
      · have hmy := may_ok ⟨lf, .slice A4 pts.length c4, pts, next, ks, cs⟩ w6 (srd_own PtS.cells_len (by decide) HO4.out) (by simp only; omega)
        obtain ⟨B, hB⟩ : ∃ B, mayB ⟨lf, .slice A4 pts.length c4, pts, next, ks, cs⟩ = B := ⟨_, rfl⟩
        rw [hB] at hmy
        have HM := Lib.hid hmy
        have HBm := Lib.hid hB
        have n6 := nd_all HX4.out
        simp only at n6
        have dk : decide ((K : Int) > 1) = false := decide_eq_false (by omega)
        have dk2 : decide (K > 1) = false := decide_eq_false (by omega)
        clear hmy hB
        go_wp2_with fail
        clear n6
        refine HM.out.mono ?_; rintro e w7 ⟨rfl, hb7⟩
        have HZ7 := Lib.hid (block_up HZ5.out hb7)
        have HX7 := Lib.hid (block_up HX4.out hb7)
        have HO7 := Lib.hid (own_below HO4.out hb7)
        have HI7 := Lib.hid hb7
        clear hb7
        cases B
        · have hno : ∀ d, ¬ ReadsTo b d := fun d h => by
            obtain ⟨_, h2, _, _, h5⟩ := (HRd.out d).1 h
            subst h2
            have h6 := (mayB_iff (NdD.nd ⟨lf, pts, next, ks, cs⟩ (.slice A4 pts.length c4))).2 h5
            rw [show mayB (NdD.nd ⟨lf, pts, next, ks, cs⟩ (.slice A4 pts.length c4)) = false from HBm.out] at h6
            cases h6
          have HNo := Lib.hid hno
          clear hno
          go_wp2_with (with_reducible refine wpList_store_rowF rfl 49 _ _ rfl w.heap.size (ncells NdS.zero) rfl rfl 49 _ HZ7.out HIz.out.1 HIz.out.2.1 HIz.out.2.2 ?_; intro w8 hg8 hf8)
          refine bodyPost_ret (v := .tuple #[.agg zcN, .int .i64 16]) (results_cell_tmp (p := 2) (t := 3) rfl _ _ w.heap.size _ _ (0, 0) _ rfl hg8 Try.underlying49 rfl HIz.out.1 _ rfl) rfl ⟨.inr ⟨HNo.out, rfl⟩, ?_⟩
          exact ((Fr.of_below (S := fun k => w.heap.size ≤ k) (below_up HBf.out HI7.out)).trans hf8 (fun k _ e => by subst e; exact Nat.le_refl _)).toBelow (fun _ h => h) (Nat.le_refl _)
        · have hyes : Hid (ReadsTo b ⟨lf, pts, next, ks, cs⟩) := Lib.hid ((HRd.out _).2 ⟨hk1, rfl, hE, hb0, (mayB_iff (NdD.nd ⟨lf, pts, next, ks, cs⟩ (.slice A4 pts.length c4))).1 HBm.out⟩)
          have HIy := Lib.hid (And.intro (infoN_nd ⟨lf, .slice A4 pts.length c4, pts, next, ks, cs⟩) (And.intro (holdN_zc ⟨lf, .slice A4 pts.length c4, pts, next, ks, cs⟩) (oneN_nd ⟨lf, .slice A4 pts.length c4, pts, next, ks, cs⟩ rfl)))
          go_wp2_with (first
            | (with_reducible refine wpList_store_rowF rfl 49 _ _ rfl w.heap.size (ncells ⟨lf, .slice A4 pts.length c4, pts, next, ks, cs⟩) rfl rfl 49 _ HZ7.out HIy.out.1 HIy.out.2.1 HIy.out.2.2 ?_; intro w8 hg8 hf8)
            | (with_reducible refine wpList_load_row rfl 49 _ rfl g6 rfl 49 (ncells ⟨lf, .slice A4 pts.length c4, pts, next, ks, cs⟩) (0, 0) _ HX7.out Try.underlying49 rfl HIy.out.1 ?_))
          refine bodyPost_ret (v := .tuple #[nv ⟨lf, .slice A4 pts.length c4, pts, next, ks, cs⟩, .int .i64 0]) (results_cell_tmp (p := 2) (t := 3) rfl _ _ w.heap.size _ _ (0, 0) _ rfl hg8 Try.underlying49 rfl HIy.out.1 _ rfl) rfl ⟨.inl ⟨_, .slice A4 pts.length c4, hyes.out, rfl, ?_⟩, ?_⟩
          · exact own_lower (own_fr HO7.out hf8 (fun k hk e => own_ne_block HO7.out HZ7.out (by decide) (by rw [hk, e]))) HB.out.size
          · exact ((Fr.of_below (S := fun k => w.heap.size ≤ k) (below_up HBf.out HI7.out)).trans hf8 (fun k _ e => by subst e; exact Nat.le_refl _)).toBelow (fun _ h => h) (Nat.le_refl _)
      · have dk : decide ((K : Int) > 1) = true := decide_eq_true (by omega)
        have dk2 : decide (K > 1) = true := decide_eq_true (by omega)
        have hno : ∀ d, ¬ ReadsTo b d := fun d h => by have := ((HRd.out d).1 h).1; omega
        have HNo := Lib.hid hno
        clear hno
        go_wp2_with (with_reducible refine wpList_store_rowF rfl 49 _ _ rfl w.heap.size (ncells NdS.zero) rfl rfl 49 _ HZ5.out HIz.out.1 HIz.out.2.1 HIz.out.2.2 ?_; intro w8 hg8 hf8)
        refine bodyPost_ret (v := .tuple #[.agg zcN, .int .i64 16]) (results_cell_tmp (p := 2) (t := 3) rfl _ _ w.heap.size _ _ (0, 0) _ rfl hg8 Try.underlying49 rfl HIz.out.1 _ rfl) rfl ⟨.inr ⟨HNo.out, rfl⟩, hend.out _ hf8⟩
    · have hb1 : s2.b.length ≠ 0 := fun h => hb0 (List.eq_nil_of_length_eq_zero h)
      have dl : decide ((s2.b.length : Int) > 0) = true := decide_eq_true (by omega)
      have dl2 : decide (0 < s2.b.length) = true := decide_eq_true (by omega)
      have hno : ∀ d, ¬ ReadsTo b d := fun d h => hb0 ((HRd.out d).1 h).2.2.2.1
      have HNo := Lib.hid hno
      clear hno
      go_wp2_with (with_reducible refine wpList_store_rowF rfl 49 _ _ rfl w.heap.size (ncells NdS.zero) rfl rfl 49 _ HZ5.out HIz.out.1 HIz.out.2.1 HIz.out.2.2 ?_; intro w8 hg8 hf8)
      refine bodyPost_ret (v := .tuple #[.agg zcN, .int .i64 16]) (results_cell_tmp (p := 2) (t := 3) rfl _ _ w.heap.size _ _ (0, 0) _ rfl hg8 Try.underlying49 rfl HIz.out.1 _ rfl) rfl ⟨.inr ⟨HNo.out, rfl⟩, hend.out _ hf8⟩
  · have e1 : (E != 0) = true := by rw [bne_iff_ne]; exact he0
    have hno : ∀ d, ¬ ReadsTo b d := fun d h => he0 (hE.symm.trans ((HRd.out d).1 h).2.2.1)
    have HNo := Lib.hid hno
    clear hno
    go_wp2_with (with_reducible refine wpList_store_rowF rfl 49 _ _ rfl w.heap.size (ncells NdS.zero) rfl rfl 49 _ HZ5.out HIz.out.1 HIz.out.2.1 HIz.out.2.2 ?_; intro w8 hg8 hf8)
    refine bodyPost_ret (v := .tuple #[.agg zcN, .int .i64 16]) (results_cell_tmp (p := 2) (t := 3) rfl _ _ w.heap.size _ _ (0, 0) _ rfl hg8 Try.underlying49 rfl HIz.out.1 _ rfl) rfl ⟨.inr ⟨HNo.out, rfl⟩, hend.out _ hf8⟩
set_option maxHeartbeats 4000000 in
set_option maxRecDepth 100000 in
theorem total_ok (n : NdS) (w : World) (h : PRd w n.v n.pts) : Calls Try.prog 49 #[nv n] w fun e w' => e = .returned (.int .i64 (if n.lf = true then (n.pts.length : Int) else wrap64 (wrap64 (wrap64 (n.cs 0 + n.cs 1) + n.cs 2) + n.cs 3))) ∧ Below w.heap.size w w' := by
  have q1 := alloc_at (w := w) (.cells (ncells n) 49) rfl
  have HB := Lib.hid (below_alloc1 w (.cells (ncells n) 49))
  have hn := nd_all q1
  obtain ⟨A, c, hv, _⟩ := h
  obtain ⟨lf, v, pts, next, ks, cs⟩ := n
  simp only at hn hv HB ⊢
  subst hv
  clear q1
  cases lf
  · simp only [Bool.false_eq_true, if_false]
    go_enter Try.func49, Try.ntmps49
    go_wp2
    go_ret
    exact ⟨rfl, HB.out⟩
  · simp only [if_true]
    go_enter Try.func49, Try.ntmps49
    go_wp2
    go_ret
    exact ⟨rfl, HB.out⟩
end Go.Proofs.Ythpnlgdcijmocaa.Nd
