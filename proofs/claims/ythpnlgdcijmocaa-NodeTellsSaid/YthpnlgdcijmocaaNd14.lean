/- The walk over NodeBack. -/
import Derived.Test.YthpnlgdcijmocaaNd13
import Derived.Test.YthpnlgdcijmocaaNd10
import Derived.Test.YthpnlgdcijmocaaNd9
namespace Go.Proofs.Ythpnlgdcijmocaa.Nd
open Go.RowKit Lt Pt Rg
set_option linter.unusedVariables false
set_option linter.unusedSimpArgs false
theorem reads_small {b : List UInt8} {d : NdD} (h : ReadsTo b d) : d.pts.length ≤ 140737488355328 := by
  have := body_len (getB ((inOk b).got 1)) ((inOk b).next 1)
  rw [h.2.1]; omega
set_option maxHeartbeats 4000000 in
set_option maxRecDepth 100000 in
theorem alive_ok (w : World) : Calls Try.prog 32 #[] w fun e w' => e = .returned (.bool true) ∧ Below w.heap.size w w' := by
  have hm : mayB ⟨true, .slice none 0 0, [], 0, fun _ => 0, fun _ => 0⟩ = true := (mayB_iff _).2 (by
    unfold May
    rw [if_pos rfl]
    exact ⟨⟨fun i h => absurd h (Nat.not_lt_zero i), by simp⟩, by decide, by decide, fun _ _ => rfl, fun _ _ => rfl⟩)
  have h1 := fun W => nput_ok ⟨true, .slice none 0 0, [], 0, fun _ => 0, fun _ => 0⟩ W (srd_nil _ _ _) (fun p hp => by cases hp) (by simp) hm
  rw [show nodeB ⟨true, .slice none 0 0, [], 0, fun _ => 0, fun _ => 0⟩ = [1, 0, 0] from rfl] at h1
  have HC := Lib.hid h1
  have hss : (bstr [1, 0, 0] == (⟨#[1, 0, 0]⟩ : ByteArray)) = true := (MapKept.bytes_beq _ _).2 rfl
  clear h1 hm
  go_enter Try.func32, Try.ntmps32
  go_wp2_with fail
  refine (HC.out _).mono ?_; rintro e w1 ⟨x, rfl, hx, hb⟩
  have cv1 := conv_rd (P := Try.prog) hx 78 5 9 Try.underlying78 Try.underlying5 Try.underlying9
  have HB := Lib.hid hb
  obtain ⟨Ay, cy, rfl, _, _, _⟩ := id hx
  rw [show (([1, 0, 0] : List UInt8).length) = 3 from rfl] at cv1
  obtain ⟨S, hS⟩ : ∃ S, bstr [1, 0, 0] = S := ⟨_, rfl⟩
  rw [hS] at cv1 hss
  have hst : (S.toList == [1, 0, 0]) = true := by
    have h := hss
    rw [beq_toListBytes, show (⟨#[1, 0, 0]⟩ : ByteArray).toList = [1, 0, 0] from by kernel_rfl] at h
    exact h
  clear hx hb hS
  go_wp2
  go_ret
  exact ⟨rfl, HB.out⟩
set_option maxHeartbeats 8000000 in
set_option maxRecDepth 100000 in
theorem nback_walk (n : NdS) (v : Value) (b : List UInt8) (w : World) (hp : PRd w n.v n.pts) (hf : ∀ p ∈ n.pts, p.fine) (hl : n.pts.length ≤ 140737488355328) (hv : BRd w v b) (hlb : b.length ≤ 140737488351232) :
    Calls Try.prog 9 #[nv n, v] w fun e w' => e = .returned (.bool true) ∧ Below w.heap.size w w' := by
  have hlb2 : b.length ≤ 140737488355328 := by omega
  have q1 := alloc_at (w := w) (.cells (ncells n) 49) rfl
  have hb1 := below_alloc1 w (.cells (ncells n) 49)
  have HV := Lib.hid hv
  have HX1 := Lib.hid q1
  have HB1 := Lib.hid hb1
  have HP := Lib.hid hp
  have HBad := Lib.hid (fun W (h : PRd W n.v n.pts) (hm : mayB n = false) => nput_bad n W h hl hm)
  have HPt := Lib.hid (fun W (h : PRd W n.v n.pts) (hm : mayB n = true) => nput_ok n W h hf hl hm)
  have HRds := Lib.hid (fun (hm : mayB n = true) => And.intro (put_reads n ((mayB_iff n).1 hm) hf) (nodeB_len n ((mayB_iff n).1 hm)))
  obtain ⟨A0, c0, hv0, _⟩ := id hp
  clear hv hp q1 hb1 hf
  obtain ⟨lf0, v0, pts0, next0, ks0, cs0⟩ := n
  simp only at HX1 HB1 HP HBad HPt hl hv0
  subst hv0
  go_enter Try.func9, Try.ntmps9
  go_wp2_with fail
  generalize World.alloc w _ = w1 at *
  (with_reducible refine (alive_ok _).mono ?_); rintro e w2 ⟨rfl, hb⟩
  have HX2 := Lib.hid (block_up HX1.out hb)
  have HB2 := Lib.hid (below_up HB1.out hb)
  clear hb
  have n2 := nd_all HX2.out
  simp only at n2
  go_wp2_with fail
  clear n2
  obtain ⟨M, hM⟩ : ∃ M, mayB ⟨lf0, .slice A0 pts0.length c0, pts0, next0, ks0, cs0⟩ = M := ⟨_, rfl⟩
  cases M
  · (with_reducible refine (HBad.out _ (HP.out.below HB2.out) hM).mono ?_); rintro e w3 ⟨rfl, hb⟩
    have HB8 := Lib.hid (below_up HB2.out hb)
    clear hb hM
    go_upto_region 8 with (fail)
    have HRd := Lib.hid (nread_ok v b w3 (HV.out.below HB8.out) hlb2)
    go_wp2_with fail
    (with_reducible refine HRd.out.mono ?_); rintro e wa ⟨hE, hba⟩
    have HBa := Lib.hid (below_up HB8.out hba)
    clear hba
    rcases hE with ⟨d, v', hr, rfl, ho⟩ | ⟨_, rfl⟩
    · obtain ⟨A9, c9, rfl, _⟩ := own_rd ho
      obtain ⟨hnb, hfin, hmay⟩ := reads_back b d (.slice A9 d.pts.length c9) hr
      have hp4 : d.pts.length ≤ 140737488355328 := reads_small hr
      have hmb : mayB (d.nd (.slice A9 d.pts.length c9)) = true := (mayB_iff _).2 hmay
      have hput := fun W' (h : PRd W' (.slice A9 d.pts.length c9) d.pts) => nput_ok (d.nd (.slice A9 d.pts.length c9)) W' h hfin hp4 hmb
      rw [hnb] at hput
      have HPut := Lib.hid hput
      have HO := Lib.hid ho
      clear hr hnb hfin hmay hp4 hmb hput ho
      obtain ⟨lf, pts, next, ks, cs⟩ := d
      simp only [NdD.nd] at HPut HO ⊢
      have HX := Lib.hid (alloc_at (w := wa) (.cells (ncells ⟨lf, .slice A9 pts.length c9, pts, next, ks, cs⟩) 49) rfl)
      have hbx := below_alloc1 wa (.cells (ncells ⟨lf, .slice A9 pts.length c9, pts, next, ks, cs⟩) 49)
      have HBx := Lib.hid (below_up HBa.out hbx)
      have HOx := Lib.hid (srd_own PtS.cells_len (by decide) (own_below HO.out hbx))
      clear hbx
      go_upto_region 11 with (fail)
      generalize wa.heap.size = ga at *
      generalize World.alloc wa _ = wx at *
      have n9 := nd_all HX.out
      simp only at n9
      go_wp2_with fail
      clear n9
      (with_reducible refine (HPut.out _ HOx.out).mono ?_); rintro e wy ⟨vy, rfl, hy, hb⟩
      have HBy := Lib.hid (below_up HBx.out hb)
      have cv1 := conv_rd (P := Try.prog) hy 78 5 9 Try.underlying78 Try.underlying5 Try.underlying9
      have cv2 := conv_rd (P := Try.prog) (HV.out.below HBy.out) 78 5 9 Try.underlying78 Try.underlying5 Try.underlying9
      obtain ⟨S, hS⟩ : ∃ S, bstr b = S := ⟨_, rfl⟩
      rw [hS] at cv1 cv2
      have hss : (S == S) = true := (MapKept.bytes_beq _ _).2 rfl
      obtain ⟨Ay, cy, rfl, _, _, _⟩ := id hy
      clear hb hy hS
      obtain ⟨A, c, rfl, _, _, _⟩ := id HV.out
      go_wp2
      go_ret
      exact ⟨rfl, HBy.out⟩
    · have HX := Lib.hid (alloc_at (w := wa) (.cells (ncells NdS.zero) 49) rfl)
      have HBx := Lib.hid (below_up HBa.out (below_alloc1 wa (.cells (ncells NdS.zero) 49)))
      have hsm := fun W' => rsame_ok ⟨false, .slice none 0 0, [], 0, fun _ => 0, fun _ => 0⟩ ⟨false, .slice none 0 0, [], 0, fun _ => 0, fun _ => 0⟩ W' (srd_nil _ _ _) (srd_nil _ _ _) (by simp) (by simp)
      have hst := sameB_t (a := ⟨false, .slice none 0 0, [], 0, fun _ => 0, fun _ => 0⟩) (b := ⟨false, .slice none 0 0, [], 0, fun _ => 0, fun _ => 0⟩) ⟨rfl, rfl, fun _ _ => rfl, fun _ _ => rfl, rfl⟩
      simp only [hst] at hsm
      have HSm := Lib.hid hsm
      clear hsm hst
      go_upto_region 10 with (fail)
      have n9 := nd_all HX.out
      simp only [NdS.zero] at n9
      go_wp2_with fail
      clear n9
      (with_reducible refine (HSm.out _).mono ?_); rintro e wy ⟨rfl, hb⟩
      have HBy := Lib.hid (below_up HBx.out hb)
      clear hb
      go_wp2
      go_ret
      exact ⟨rfl, HBy.out⟩
  · (with_reducible refine (HPt.out _ (HP.out.below HB2.out) hM).mono ?_); rintro e w3 ⟨v3, rfl, h3, hb⟩
    have HX3 := Lib.hid (block_up HX2.out hb)
    have HB3 := Lib.hid (below_up HB2.out hb)
    obtain ⟨⟨hex, hall⟩, hlen⟩ := HRds.out hM
    have HAll := Lib.hid hall
    have hr3 := nread_ok v3 _ w3 h3 (by omega)
    have HR3 := Lib.hid hr3
    have HEx := Lib.hid hex
    obtain ⟨A3, c3, rfl, _, _, _⟩ := id h3
    generalize nodeB ⟨lf0, .slice A0 pts0.length c0, pts0, next0, ks0, cs0⟩ = NB at *
    clear hb hex hall hr3 h3
    go_wp2_with fail
    (with_reducible refine HR3.out.mono ?_); rintro e w4 ⟨hE, hb4⟩
    have HB4 := Lib.hid (below_up HB3.out hb4)
    have HX4 := Lib.hid (block_up HX3.out hb4)
    clear hb4
    rcases hE with ⟨d, v', hr, rfl, ho⟩ | ⟨hno, rfl⟩
    · obtain ⟨A9, c9, rfl, _⟩ := own_rd ho
      have hsd := HAll.out d hr (.slice A9 d.pts.length c9)
      have hd4 := reads_small hr
      have hsm := fun W' (h1 : PRd W' (.slice A0 pts0.length c0) pts0) (h2 : PRd W' (.slice A9 d.pts.length c9) d.pts) => rsame_ok ⟨lf0, .slice A0 pts0.length c0, pts0, next0, ks0, cs0⟩ (d.nd (.slice A9 d.pts.length c9)) W' h1 h2 hl hd4
      simp only [sameB_t hsd] at hsm
      have HSm := Lib.hid hsm
      have HO := Lib.hid ho
      clear hr hsd hd4 hsm ho
      obtain ⟨lf, pts, next, ks, cs⟩ := d
      simp only [NdD.nd] at HSm HO ⊢
      have hbx := below_alloc1 w4 (.cells (ncells ⟨lf, .slice A9 pts.length c9, pts, next, ks, cs⟩) 49)
      have HX := Lib.hid (alloc_at (w := w4) (.cells (ncells ⟨lf, .slice A9 pts.length c9, pts, next, ks, cs⟩) 49) rfl)
      have HB5 := Lib.hid (below_up HB4.out hbx)
      have HX5 := Lib.hid (block_up HX4.out hbx)
      have HO5 := Lib.hid (srd_own PtS.cells_len (by decide) (own_below HO.out hbx))
      clear hbx
      go_upto_region 6 with (fail)
      generalize w4.heap.size = g4 at *
      generalize World.alloc w4 _ = w5 at *
      have n5 := nd_all HX5.out
      have n6 := nd_all HX.out
      simp only at n5 n6
      have dl : decide ((NB.length : Int) > 237) = false := decide_eq_false (by omega)
      have dl2 : decide (237 < NB.length) = false := decide_eq_false (by omega)
      go_wp2_with fail
      clear n5 n6
      (with_reducible refine (HSm.out _ (HP.out.below HB5.out) HO5.out).mono ?_); rintro e w6 ⟨rfl, hb⟩
      have HB8 := Lib.hid (below_up HB5.out hb)
      clear hb
      go_upto_region 8 with (fail)
      have HRd := Lib.hid (nread_ok v b w6 (HV.out.below HB8.out) hlb2)
      go_wp2_with fail
      (with_reducible refine HRd.out.mono ?_); rintro e wa ⟨hE, hba⟩
      have HBa := Lib.hid (below_up HB8.out hba)
      clear hba
      rcases hE with ⟨d, v', hr, rfl, ho⟩ | ⟨_, rfl⟩
      · obtain ⟨A9, c9, rfl, _⟩ := own_rd ho
        obtain ⟨hnb, hfin, hmay⟩ := reads_back b d (.slice A9 d.pts.length c9) hr
        have hp4 : d.pts.length ≤ 140737488355328 := reads_small hr
        have hmb : mayB (d.nd (.slice A9 d.pts.length c9)) = true := (mayB_iff _).2 hmay
        have hput := fun W' (h : PRd W' (.slice A9 d.pts.length c9) d.pts) => nput_ok (d.nd (.slice A9 d.pts.length c9)) W' h hfin hp4 hmb
        rw [hnb] at hput
        have HPut := Lib.hid hput
        have HO := Lib.hid ho
        clear hr hnb hfin hmay hp4 hmb hput ho
        obtain ⟨lf, pts, next, ks, cs⟩ := d
        simp only [NdD.nd] at HPut HO ⊢
        have HX := Lib.hid (alloc_at (w := wa) (.cells (ncells ⟨lf, .slice A9 pts.length c9, pts, next, ks, cs⟩) 49) rfl)
        have hbx := below_alloc1 wa (.cells (ncells ⟨lf, .slice A9 pts.length c9, pts, next, ks, cs⟩) 49)
        have HBx := Lib.hid (below_up HBa.out hbx)
        have HOx := Lib.hid (srd_own PtS.cells_len (by decide) (own_below HO.out hbx))
        clear hbx
        go_upto_region 11 with (fail)
        generalize wa.heap.size = ga at *
        generalize World.alloc wa _ = wx at *
        have n9 := nd_all HX.out
        simp only at n9
        go_wp2_with fail
        clear n9
        (with_reducible refine (HPut.out _ HOx.out).mono ?_); rintro e wy ⟨vy, rfl, hy, hb⟩
        have HBy := Lib.hid (below_up HBx.out hb)
        have cv1 := conv_rd (P := Try.prog) hy 78 5 9 Try.underlying78 Try.underlying5 Try.underlying9
        have cv2 := conv_rd (P := Try.prog) (HV.out.below HBy.out) 78 5 9 Try.underlying78 Try.underlying5 Try.underlying9
        obtain ⟨S, hS⟩ : ∃ S, bstr b = S := ⟨_, rfl⟩
        rw [hS] at cv1 cv2
        have hss : (S == S) = true := (MapKept.bytes_beq _ _).2 rfl
        obtain ⟨Ay, cy, rfl, _, _, _⟩ := id hy
        clear hb hy hS
        obtain ⟨A, c, rfl, _, _, _⟩ := id HV.out
        go_wp2
        go_ret
        exact ⟨rfl, HBy.out⟩
      · have HX := Lib.hid (alloc_at (w := wa) (.cells (ncells NdS.zero) 49) rfl)
        have HBx := Lib.hid (below_up HBa.out (below_alloc1 wa (.cells (ncells NdS.zero) 49)))
        have hsm := fun W' => rsame_ok ⟨false, .slice none 0 0, [], 0, fun _ => 0, fun _ => 0⟩ ⟨false, .slice none 0 0, [], 0, fun _ => 0, fun _ => 0⟩ W' (srd_nil _ _ _) (srd_nil _ _ _) (by simp) (by simp)
        have hst := sameB_t (a := ⟨false, .slice none 0 0, [], 0, fun _ => 0, fun _ => 0⟩) (b := ⟨false, .slice none 0 0, [], 0, fun _ => 0, fun _ => 0⟩) ⟨rfl, rfl, fun _ _ => rfl, fun _ _ => rfl, rfl⟩
        simp only [hst] at hsm
        have HSm := Lib.hid hsm
        clear hsm hst
        go_upto_region 10 with (fail)
        have n9 := nd_all HX.out
        simp only [NdS.zero] at n9
        go_wp2_with fail
        clear n9
        (with_reducible refine (HSm.out _).mono ?_); rintro e wy ⟨rfl, hb⟩
        have HBy := Lib.hid (below_up HBx.out hb)
        clear hb
        go_wp2
        go_ret
        exact ⟨rfl, HBy.out⟩
    · obtain ⟨d, hd⟩ := HEx.out
      exact absurd hd (hno d)
end Go.Proofs.Ythpnlgdcijmocaa.Nd
