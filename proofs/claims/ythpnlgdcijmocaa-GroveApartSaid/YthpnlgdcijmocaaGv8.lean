/- The walk over croftlaw22.GroveApart. -/
import Derived.Test.YthpnlgdcijmocaaGv7
import Derived.Test.YthpnlgdcijmocaaONd
import Derived.Laws.OwnMore
namespace Go.Proofs.Ythpnlgdcijmocaa.Gv
open Go.RowKit Lt Pt Rg Nd Mp
set_option linter.unusedVariables false
set_option linter.unusedSimpArgs false
/-- One node alone, at a. -/
def Only (m : Int → Option NdS) (a : Int) : Prop := ∀ c, (m c).isSome = true ↔ c = a
theorem Only.inK {m : Int → Option NdS} {a : Int} (h : Only m a) (ha : 1 ≤ a ∧ a < 256) : InK m := fun c x hc => by
  have := (h c).1 (by rw [hc]; rfl)
  rw [this]; exact ha
theorem only_ids {m : Int → Option NdS} {a : Nat} (h : Only m a) (h1 : 1 ≤ a) : ∀ k, 1 ≤ k → (idsL m k).length = if a < k then 1 else 0
  | 0, hk => by omega
  | 1, _ => by rw [idsL_one, if_neg (by omega)]; rfl
  | k + 2, _ => by
    have ih := only_ids h h1 (k + 1) (by omega)
    rw [idsL_succ m (k + 1) (by omega), List.length_append, ih]
    by_cases e : (m ((k + 1 : Nat) : Int)).isSome = true
    · have e2 := (h _).1 e
      have e3 : k + 1 = a := by omega
      rw [if_pos e, if_neg (by omega), if_pos (by omega)]; rfl
    · rw [if_neg e]
      have e3 : k + 1 ≠ a := fun h3 => e ((h _).2 (by omega))
      by_cases h4 : a < k + 1
      · rw [if_pos h4, if_pos (by omega)]; rfl
      · rw [if_neg h4, if_neg (by omega)]; rfl
theorem only_upd (m : Int → Option NdS) (a : Int) (x : NdS) (h : ∀ c, c ≠ a → m c = none) : Only (updN m a (some x)) a := fun c => by
  unfold updN
  by_cases e : c = a
  · rw [if_pos e]; exact ⟨fun _ => e, fun _ => rfl⟩
  · rw [if_neg e, h c e]; exact ⟨(fun h => by cases h), fun h => absurd h e⟩
theorem Only.other {m : Int → Option NdS} {a : Int} (h : Only m a) (c : Int) (hc : c ≠ a) : m c = none := by
  cases hm : m c with
  | none => rfl
  | some x => exact absurd ((h c).1 (by rw [hm]; rfl)) hc
theorem Only.rel {m m2 : Int → Option NdS} {a : Int} (h : Only m a) (hr : RelM m m2) : Only m2 a := fun c => by rw [hr.some c]; exact h c
theorem Only.del {m : Int → Option NdS} {a c : Int} (h : Only m a) (hc : c ≠ a) : Only (updN m c none) a := fun d => by
  unfold updN
  by_cases e : d = c
  · rw [if_pos e]
    exact ⟨(fun h => by cases h), fun h2 => absurd (e.symm.trans h2) hc⟩
  · rw [if_neg e]; exact h d
/-- Put, whatever it says. -/
theorem put_any {W : World} {p b n : Nat} {m : Int → Option NdS} (h : GvAt W p b n m) (id : Int) (x : NdS) (hx : PRd W x.v x.pts) (hl : x.pts.length ≤ 140737488355328) (hn : n ≤ 1000000) :
    Calls Try.prog 22 #[.pointer (some ⟨p, 0, none⟩), .int .i64 id, nv x] W fun e w' => ∃ k, e = .returned (.int .i64 k) ∧ (k = putE x id) ∧ ∃ m2, GvAt w' p b (n + 1) m2 ∧ (m2 = m ∨ ∃ y, m2 = updN m id (some y)) ∧ Fr (fun k => k = b) W w' := by
  by_cases he : putE x id = 0
  · exact (put_ok h id x hx hl he hn).mono fun e w' ⟨h1, y, h2, h3, h4⟩ => ⟨0, h1, he.symm, _, h2, .inr ⟨y, rfl⟩, h4⟩
  · exact (put_err h id x hx hl he).mono fun e w' ⟨h1, h2⟩ => ⟨_, h1, rfl, m, ⟨(h.up h2).1, (h.up h2).2.1.mono (by omega), (h.up h2).2.2⟩, .inl rfl, Fr.of_below h2⟩
set_option maxHeartbeats 8000000 in
set_option maxRecDepth 100000 in
theorem gapart_walk (N : Nat) (hN : N < 256) (x y : NdS) (W : World) (hx : NdFine W x) (hy : NdFine W y) : Calls Try.prog 6 #[.int .u8 (N : Int), nv x, nv y] W fun e w' => e = .returned (.bool true) ∧ Below W.heap.size W w' := by
  have h2 := two_nodes x y W
  have HB := Lib.hid h2.1
  have HX := Lib.hid h2.2.1
  have HY := Lib.hid h2.2.2
  have hlx : x.pts.length ≤ 140737488355328 := by have := hx.2.2.2.2.2; omega
  have hly : y.pts.length ≤ 140737488355328 := by have := hy.2.2.2.2.2; omega
  have HPx := Lib.hid (hx.2.2.2.1.below h2.1)
  have HPy := Lib.hid (hy.2.2.2.1.below h2.1)
  obtain ⟨A1, c1, hv1, _⟩ := hx.2.2.2.1
  obtain ⟨A2, c2, hv2, _⟩ := hy.2.2.2.1
  clear h2 hx hy
  obtain ⟨lf, v, pts, next, ks, cs⟩ := x
  obtain ⟨lf2, v2, pts2, next2, ks2, cs2⟩ := y
  simp only at HX HY HPx HPy hlx hly hv1 hv2 HB
  subst hv1 hv2
  go_enter Try.func6, Try.ntmps6
  go_wp2_with fail
  generalize ((W.alloc _).alloc _) = w0 at *
  (with_reducible refine (alive_ok _).mono ?_); rintro e w1 ⟨rfl, hb⟩
  have HB1 := Lib.hid hb; clear hb
  go_wp2_with fail
  (with_reducible refine (new_ok w1).mono ?_); rintro e w2 ⟨rfl, hp1, hm1, hb⟩
  have HG : Hid (GvAt w2 (w1.heap.size + 1) w1.heap.size 0 (fun _ => none)) := Lib.hid ⟨hp1, hm1, fun a x hx => by cases hx⟩
  have HB2 := Lib.hid (below_up HB1.out hb)
  clear hb hp1 hm1
  have Hb1 := Lib.hid HB1.out.size
  generalize w1.heap.size = b1 at *
  have hn := nd_all (n := ⟨lf, .slice A1 pts.length c1, pts, next, ks, cs⟩) (block_up HX.out HB2.out)
  by_cases he : putE ⟨lf, .slice A1 pts.length c1, pts, next, ks, cs⟩ (N : Int) = 0
  · have hN1 : Hid (1 ≤ N) := Lib.hid (by
      unfold putE at he
      split at he
      · cases he
      · split at he
        · cases he
        · omega)
    have HPut := Lib.hid (put_ok HG.out (N : Int) ⟨lf, .slice A1 pts.length c1, pts, next, ks, cs⟩ (HPx.out.below HB2.out) hlx he (by omega))
    clear he
    go_wp2_with fail
    refine HPut.out.mono ?_; rintro e w3 ⟨rfl, yy, hG3, hO3, hF3⟩
    have HO1 : Hid (Only (updN (fun _ => none) (N : Int) (some yy)) (N : Int)) := Lib.hid (only_upd _ _ _ (fun _ _ => rfl))
    have HyD : Hid (SameP yy ⟨lf, .slice A1 pts.length c1, pts, next, ks, cs⟩) := Lib.hid (by
      obtain ⟨v', rfl, _⟩ := hO3
      exact ⟨rfl, rfl, fun _ _ => rfl, fun _ _ => rfl, rfl⟩)
    have Hm1 : Hid (updN (fun _ => none) (N : Int) (some yy) (N : Int) = some yy) := Lib.hid (by unfold updN; rw [if_pos rfl])
    generalize updN (fun _ => none) (N : Int) (some yy) = m1 at *
    have HG3 := Lib.hid hG3
    have HB3 : Hid (Below w0.heap.size w0 w3) := Lib.hid (((Fr.of_below (S := fun k => w0.heap.size ≤ k) HB2.out).trans hF3 (fun k _ e => by have := Hb1.out; omega)).toBelow (fun _ h => h) (Nat.le_refl _))
    have HL1 : Hid (b1 < w3.heap.size) := Lib.hid hG3.2.1.lt
    clear hG3 hO3 hF3 hn HG HPut
    go_wp2_with fail
    (with_reducible refine (clone_gv HG3.out (HO1.out.inK ⟨by have := hN1.out; omega, by omega⟩)).mono ?_); rintro e w4 ⟨p2, b2, m2, rfl, hG4, hR4, hb2, hp2, hb⟩
    have HG4 := Lib.hid hG4
    have HO2 := Lib.hid (HO1.out.rel hR4)
    have HB4 := Lib.hid (below_up HB3.out hb)
    have HGg := Lib.hid (HG3.out.up hb)
    have Hb2 : Hid (w0.heap.size ≤ b2 ∧ b1 ≠ b2) := Lib.hid ⟨Nat.le_trans HB3.out.size hb2, by have := HL1.out; omega⟩
    clear hG4 hR4 hb2 hp2 hb HG3
    have hn := nd_all (n := ⟨lf2, .slice A2 pts2.length c2, pts2, next2, ks2, cs2⟩) (block_up HY.out HB4.out)
    go_wp2_with fail
    refine (put_any HG4.out (N : Int) ⟨lf2, .slice A2 pts2.length c2, pts2, next2, ks2, cs2⟩ (HPy.out.below HB4.out) hly (by omega)).mono ?_; rintro e w5 ⟨kk, rfl, _, m3, hG5, hm3, hF5⟩
    obtain ⟨es, cl, hbm⟩ := HG4.out.2.1.blk
    have HO3 : Hid (Only m3 (N : Int)) := Lib.hid (by
      rcases hm3 with rfl | ⟨z, rfl⟩
      · exact HO2.out
      · exact only_upd _ _ _ HO2.out.other)
    have HGg5 := Lib.hid (HGg.out.frm Hb2.out.2 hbm hF5)
    have HG5 := Lib.hid hG5
    have HB5 : Hid (Below w0.heap.size w0 w5) := Lib.hid (((Fr.of_below (S := fun k => w0.heap.size ≤ k) HB4.out).trans hF5 (fun k _ e => by have := Hb2.out.1; omega)).toBelow (fun _ h => h) (Nat.le_refl _))
    clear hG5 hm3 hF5 hbm hn HG4 HGg
    have bN : (N : Int) < 256 := by omega
    go_wp2_with fail
    refine (drop_ok HG5.out ((N : Int) + 1) ⟨by omega, by omega⟩).mono ?_; rintro e w6 ⟨rfl, hG6, hF6⟩
    obtain ⟨es, cl, hbm⟩ := HG5.out.2.1.blk
    have HO4 := Lib.hid (HO3.out.del (c := (N : Int) + 1) (by omega))
    have HGg6 := Lib.hid (HGg5.out.frm Hb2.out.2 hbm hF6)
    have HG6 := Lib.hid hG6
    have HB6 : Hid (Below w0.heap.size w0 w6) := Lib.hid (((Fr.of_below (S := fun k => w0.heap.size ≤ k) HB5.out).trans hF6 (fun k _ e => by have := Hb2.out.1; omega)).toBelow (fun _ h => h) (Nat.le_refl _))
    clear hG6 hF6 hbm HG5 HGg5
    have hget : ∀ {w : World}, GvAt w (b1 + 1) b1 (0 + 1) m1 → Calls Try.prog 25 #[.pointer (some ⟨b1 + 1, 0, none⟩), .int .i64 (N : Int)] w fun e w' => ∃ v', e = .returned (.tuple #[nv { yy with v := v' }, .bool true]) ∧ w'.ownsRow w.heap.size 58 4 v' yy.pts.length (yy.pts.flatMap PtS.cells) ∧ Below w.heap.size w w' := fun {w} hg => by
      have := get_ok hg (N : Int) ⟨by omega, by omega⟩
      rw [Hm1.out] at this
      exact this
    have HGet := Lib.hid (fun (w : World) (hg : GvAt w (b1 + 1) b1 (0 + 1) m1) => hget hg)
    clear hget
    go_wp2_with fail
    (with_reducible refine (HGet.out _ HGg6.out).mono ?_); rintro e w7 ⟨v7, rfl, ho7, hb7⟩
    obtain ⟨A7, c7, rfl, _⟩ := own_rd ho7
    obtain ⟨lfy, vy, ptsy, nexty, ksy, csy⟩ := yy
    simp only at ho7 HGet HyD
    have hpy : Hid (ptsy.length ≤ 1000) := Lib.hid (by
      have := (HGg6.out.2.2 _ _ Hm1.out).2
      simpa using this)
    have bpy : (ptsy.length : Int) ≤ 1000 := by have := hpy.out; omega
    have q9 := alloc_at (w := w7) (.cells (ncells ⟨lfy, .slice A7 ptsy.length c7, ptsy, nexty, ksy, csy⟩) 49) rfl
    have HB7 := Lib.hid (below_alloc hb7 (.cells (ncells ⟨lfy, .slice A7 ptsy.length c7, ptsy, nexty, ksy, csy⟩) 49))
    have HO7 := Lib.hid (own_below ho7 (below_alloc1 w7 (.cells (ncells ⟨lfy, .slice A7 ptsy.length c7, ptsy, nexty, ksy, csy⟩) 49)))
    have HQ9 := Lib.hid q9
    clear ho7 hb7 q9
    go_wp2_with fail
    generalize w7.heap.size = t9 at *
    generalize World.alloc w7 _ = w8 at *
    go_loopw [11] (fun vj W' => ∃ j : Nat, vj = .int .i64 j ∧ j ≤ ptsy.length ∧ (∃ xs, W'.ownsRow w6.heap.size 58 4 (.slice A7 ptsy.length c7) ptsy.length xs) ∧ W'.heap[t9]? = some (.cells (ncells ⟨lfy, .slice A7 ptsy.length c7, ptsy, nexty, ksy, csy⟩) 49 (0, 0)) ∧ Below w6.heap.size w6 W') (fun vj _ => ptsy.length - (intOf vj).toNat)
    case atStart => exact ⟨0, rfl, Nat.zero_le _, ⟨_, HO7.out⟩, HQ9.out, HB7.out⟩
    case round =>
    obtain ⟨j, rfl, hj, ⟨xs, hox⟩, hq9, hbl⟩ := hrel
    have HOx := Lib.hid hox
    have HQr := Lib.hid hq9
    have HBl := Lib.hid hbl
    have c9 := (nd_all hq9).2.1
    simp only at c9
    clear hox hq9 hbl
    by_cases hjl : j < ptsy.length
    · have dj : decide (j < ptsy.length) = true := decide_eq_true hjl
      have bj : (j : Int) < ptsy.length := by omega
      obtain ⟨g7, hA7⟩ : ∃ g7, A7 = some ⟨g7, 0, none⟩ := by
        rcases HOx.out.2 with ⟨h1, h2⟩ | ⟨g, cap, cur, h1, _⟩
        · omega
        · injection h1 with h1 _ _
          exact ⟨g, h1⟩
      subst hA7
      have hlx' := own_len HOx.out
      have hcell := World.ownsRow.cellAt HOx.out (j * 4) (by omega)
      obtain ⟨u, hu⟩ : ∃ u, xs[j * 4]? = some u := ⟨_, List.getElem?_eq_getElem (by omega)⟩
      rw [hu] at hcell
      have hfz := World.ownsRow.frozenAt HOx.out (j * 4)
      have HSt := Lib.hid (HOx.out.stored (j * 4) (.int .i64 99)).1
      have HNe : Hid (t9 ≠ g7) := Lib.hid (fun e => own_ne_block HOx.out HQr.out (by decide) (by rw [e]; rfl))
      have HGe : Hid (w6.heap.size ≤ g7) := Lib.hid (own_base HOx.out g7 rfl)
      have HF : Hid (Below w6.heap.size w6 (wr.setCell ⟨g7, j * 4, none⟩ (.int .i64 99))) := Lib.hid ((Fr.set (S := fun k => w6.heap.size ≤ k) (Fr.of_below HBl.out) (p := ⟨g7, j * 4, none⟩) (fun _ => HGe.out) _).toBelow (fun _ h => h) (Nat.le_refl _))
      have HQ2 := Lib.hid (blk_far HQr.out (p := ⟨g7, j * 4, none⟩) HNe.out (.int .i64 99))
      clear hu hlx'
      go_wp2
      exact ⟨⟨j + 1, by go_num, by omega, ⟨_, HSt.out⟩, HQ2.out, HF.out⟩, by simp [intOf]; omega⟩
    · obtain rfl : j = ptsy.length := by omega
      have dj : decide (ptsy.length < ptsy.length) = false := decide_eq_false (by omega)
      have HGl := Lib.hid (HGg6.out.up HBl.out)
      have HHl := Lib.hid (HG6.out.up HBl.out)
      go_wp2_with fail
      (with_reducible refine (HGet.out _ HGl.out).mono ?_); rintro e wa ⟨va, rfl, hoa, hba⟩
      obtain ⟨Aa, ca, rfl, _⟩ := own_rd hoa
      have HPa := Lib.hid (srd_own PtS.cells_len (by decide) hoa)
      have HBa := Lib.hid (below_up HBl.out hba)
      have HBa2 := Lib.hid (below_alloc HBa.out (.cells (ncells ⟨lfy, .slice Aa ptsy.length ca, ptsy, nexty, ksy, csy⟩) 49))
      have HPa2 := Lib.hid (HPa.out.below (below_alloc1 wa (.cells (ncells ⟨lfy, .slice Aa ptsy.length ca, ptsy, nexty, ksy, csy⟩) 49)))
      have HQa := Lib.hid (alloc_at (w := wa) (.cells (ncells ⟨lfy, .slice Aa ptsy.length ca, ptsy, nexty, ksy, csy⟩) 49) rfl)
      clear hoa hba c9
      go_upto_region 15 with (fail)
      generalize wa.heap.size = t12 at *
      generalize World.alloc wa _ = wb at *
      have HB0b : Hid (Below w0.heap.size w0 wb) := Lib.hid (below_up HB6.out HBa2.out)
      have n1 := nd_all HQa.out
      have n2 := nd_all (n := ⟨lf, .slice A1 pts.length c1, pts, next, ks, cs⟩) (block_up HX.out HB0b.out)
      simp only at n1 n2
      have hsame : Hid (sameB ⟨lfy, .slice Aa ptsy.length ca, ptsy, nexty, ksy, csy⟩ ⟨lf, .slice A1 pts.length c1, pts, next, ks, cs⟩ = true) := Lib.hid (sameB_t HyD.out)
      have hsm := rsame_ok ⟨lfy, .slice Aa ptsy.length ca, ptsy, nexty, ksy, csy⟩ ⟨lf, .slice A1 pts.length c1, pts, next, ks, cs⟩ wb HPa2.out (HPx.out.below HB0b.out) (by have := hpy.out; simp only; omega) hlx
      rw [hsame.out] at hsm
      have HSm := Lib.hid hsm
      clear hsm
      go_wp2_with fail
      (with_reducible refine HSm.out.mono ?_); rintro e wc ⟨rfl, hbc⟩
      have HBc := Lib.hid (below_up HBa2.out hbc)
      clear hbc n1 n2
      have hlen1 : Hid ((idsL m1 256).length = 1) := Lib.hid (by rw [only_ids HO1.out hN1.out 256 (by omega), if_pos (by omega)])
      have hlen2 := Lib.hid (only_ids HO4.out hN1.out 256 (by omega))
      rw [if_pos (by omega)] at hlen2
      go_wp2_with fail
      (with_reducible refine (ids_ok (HGg6.out.up HBc.out)).mono ?_); rintro e wd ⟨vd, rfl, hod, hbd⟩
      obtain ⟨Ad, cd, rfl, _⟩ := own_rd hod
      rw [hlen1.out]
      have HBd := Lib.hid (below_up HBc.out hbd)
      clear hod hbd
      go_wp2_with fail
      (with_reducible refine (ids_ok (HG6.out.up HBd.out)).mono ?_); rintro e we ⟨ve, rfl, hoe, hbe⟩
      obtain ⟨Ae, ce, rfl, _⟩ := own_rd hoe
      rw [hlen2.out]
      have HBe := Lib.hid (below_up HBd.out hbe)
      clear hoe hbe
      go_wp2
      go_ret
      exact ⟨rfl, below_up HB.out (below_up HB6.out HBe.out)⟩
  · have HPut := Lib.hid (put_err HG.out (N : Int) ⟨lf, .slice A1 pts.length c1, pts, next, ks, cs⟩ (HPx.out.below HB2.out) hlx he)
    obtain ⟨E, hE⟩ : ∃ E, putE ⟨lf, .slice A1 pts.length c1, pts, next, ks, cs⟩ (N : Int) = E := ⟨_, rfl⟩
    rw [hE] at HPut he
    have e1 : (E != 0) = true := by rw [bne_iff_ne]; exact he
    clear hE
    go_wp2_with fail
    refine HPut.out.mono ?_; rintro e w3 ⟨rfl, hb⟩
    have HB3 := Lib.hid (below_up HB2.out hb)
    clear hb hn
    go_wp2
    go_ret
    exact ⟨rfl, below_up HB.out HB3.out⟩
end Go.Proofs.Ythpnlgdcijmocaa.Gv
