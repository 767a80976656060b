/- The walk over croftlaw14.DiskLoads. -/
import Derived.Test.YthpnlgdcijmocaaDk18
namespace Go.Proofs.Ythpnlgdcijmocaa.Dk
open Go.RowKit Rg Mp
set_option linter.unusedVariables false
set_option linter.unusedSimpArgs false
set_option maxHeartbeats 8000000 in
set_option maxRecDepth 100000 in
theorem loads_walk (n : Nat) (hn : n < 256) (vl : Value) (l0 : List Oc) (w : World) (hl0 : SlAt w vl l0) (hcap : ∃ A c, vl = .slice A l0.length c ∧ l0.length ≤ c) (hb0 : ∀ b ∈ l0, b.length ≤ 140737488351232) (hll0 : l0.length ≤ 140737488351232) :
    Calls Try.prog 11 #[vl, .int .u8 (n : Nat)] w fun e w' => e = .returned (.bool true) ∧ Below w.heap.size w w' := by
  have HAl := Lib.hid (fun W => alive_ok W)
  have HNw := Lib.hid (fun W => dnew_ok 6 (by unfold i64; decide) W)
  have HFa := Lib.hid (fun W => full_ok n hn W)
  have hla := full_len n
  obtain ⟨F, hF⟩ : ∃ F, fullB n = F := ⟨_, rfl⟩
  rw [hF] at hla HFa
  obtain ⟨⟨p1, p2⟩, ⟨p3, p4⟩, ⟨s1, s2, s3, s4, s5, s6, s7⟩, _⟩ := loads_plain F hla
  have HP := Lib.hid (And.intro p1 (And.intro p2 (And.intro p3 p4)))
  have HS := Lib.hid (And.intro s1 (And.intro s7 s5))
  have HLa := Lib.hid hla
  have HL0 := Lib.hid (And.intro hl0 (And.intro hb0 hll0))
  obtain ⟨Al, cl, rfl, hlc⟩ := hcap
  obtain ⟨Z, hZ, hZs, hmk⟩ := made256
  have HZ := Lib.hid (And.intro hZ hZs)
  clear hZ hZs p1 p2 p3 p4 s1 s2 s3 s4 s5 s6 s7 hla hF hn hl0 hb0
  go_enter Try.func11, Try.ntmps11
  go_wp2_with fail
  (with_reducible refine (HAl.out _).mono ?_); rintro e w1 ⟨rfl, hb1⟩
  have H1 := Lib.hid hb1
  clear hb1
  go_upto_if 14 with (fail)
  go_cut [0] (fun v0 wx => (∃ l c', v0 = .slice Al l.length c' ∧ SlAt w (.slice Al l.length c') l ∧ (∀ b ∈ l, b.length ≤ 140737488351232) ∧ l.length ≤ 20) ∧ wx = w1)
  case first =>
    by_cases h20 : 20 < l0.length
    · have d1 : decide ((20 : Int) < l0.length) = true := decide_eq_true (by omega)
      have e1 : (l0.take 20).length = 20 := by rw [List.length_take]; omega
      have b1 : (20 : Int) ≤ cl := by omega
      have HE := Lib.hid e1; clear e1
      go_wp2
      go_meet
      case rel => exact ⟨⟨l0.take 20, _, by rw [HE.out], by rw [HE.out]; exact HL0.out.1.take (by omega), fun b hb => HL0.out.2.1 b (List.mem_of_mem_take hb), by rw [HE.out]; omega⟩, rfl⟩
    · have d1 : decide ((20 : Int) < l0.length) = false := decide_eq_false (by omega)
      go_wp2
      go_meet
      case rel => exact ⟨⟨l0, _, rfl, HL0.out.1, HL0.out.2.1, by omega⟩, rfl⟩
  case rest =>
  obtain ⟨⟨l, cl', rfl, hl, hlb, hl20⟩, hw⟩ := hcut
  subst hw
  have HL := Lib.hid (And.intro hl hlb)
  clear hl hlb HL0 hll0
  obtain ⟨d4, e4, q1, q2, q3, q4, q5⟩ := loaded_plain F l HLa.out
  have HE4 := Lib.hid e4
  have HQ4 := Lib.hid (And.intro q1 (And.intro q2 (And.intro q3 (And.intro q4 q5))))
  clear e4 q1 q2 q3 q4 q5
  go_wp2_with fail
  (with_reducible refine (HNw.out _).mono ?_); rintro e w2 ⟨m, hm, g, vs, r, rfl, hd, hb2⟩
  obtain rfl : m = 6 := by omega
  have HBs := Lib.hid H1.out.size
  have H2 := Lib.hid (And.intro hb2 hd)
  have hz : ((0 : Nat) : Int) = 0 := rfl
  clear hb2 hd hm
  -- the first write
  go_wp2_with fail
  (with_reducible refine (HFa.out _).mono ?_); rintro e w3 ⟨v3, rfl, hs3, hb3⟩
  have hd3 := H2.out.2.up hb3
  have HW1 := Lib.hid (dwrite_ok hd3 (by simp [new]) (by simp [new]) (by intro x hx; cases hx) 0 (by unfold i64; decide) (stay_s hd3 hs3) (by rw [HLa.out]; decide))
  rw [HP.out.1, HP.out.2.1, hz] at HW1
  have H3 := Lib.hid (And.intro (H2.out.1.trans (hb3.mono H2.out.1.size)) hd3)
  clear hs3 hb3 hd3
  go_wp2_with fail
  (with_reducible refine HW1.out.mono ?_); rintro e w4 ⟨rfl, hdt⟩
  have hb4 := H3.out.1.trans (hdt.bel H3.out.2)
  obtain ⟨vw4, hd4, _, _⟩ := hdt
  -- Power
  have hba := below_alloc1 w4 (.cells #[.int .i64 30] 3)
  have hown : (w4.alloc (.cells #[.int .i64 30] 3)).ownsRow w4.heap.size 3 1 (.slice (some ⟨w4.heap.size, 0, none⟩) 1 1) 1 (iv [30]) := own_new w4 w4.heap.size 3 1 1 #[.int .i64 30] (Nat.le_refl _) (by unfold maxLen; omega) (by rfl)
  have hd5 := hd4.up hba
  have hb5 := hb4.trans (hba.mono (Nat.le_trans hb4.size (Nat.le_refl _)))
  have HPw := Lib.hid (dpower_ok hd5 (by simp [new]) (stay_n hd5 hown) (by simp) (by intro x hx; rw [List.mem_singleton] at hx; subst hx; unfold i64; decide))
  have H5 := Lib.hid (And.intro hb5 hd5)
  clear hba hown hd5 hb5 hb4 hd4 HW1
  go_wp2_with fail
  (with_reducible refine HPw.out.mono ?_); rintro e w6 ⟨rfl, hdt⟩
  have hb6 := H5.out.1.trans (hdt.bel H5.out.2)
  obtain ⟨vw6, hd6, _, _⟩ := hdt
  replace hd6 : DAt (L0 (pw0 F)) w6 _ _ g vs vw6 r (pw0 F) := hd6
  have H6 := Lib.hid (And.intro hb6 hd6)
  clear hb6 hd6 HPw
  -- the second write
  go_wp2_with fail
  (with_reducible refine (HFa.out _).mono ?_); rintro e w7 ⟨v7, rfl, hs7, hb7⟩
  have hd7 := H6.out.2.up hb7
  have HW2 := Lib.hid (dwrite_ok hd7 (by rw [HS.out.2.1]; simp [new]) (by rw [HS.out.2.2]; simp) (by rw [HS.out.2.2]; intro x hx; cases hx) 5 (by unfold i64; decide) (stay_s hd7 hs7) (by rw [HLa.out]; decide))
  rw [HP.out.2.2.1, HP.out.2.2.2, hz] at HW2
  have H7 := Lib.hid (And.intro (H6.out.1.trans (hb7.mono H6.out.2.hasbase)) hd7)
  clear hs7 hb7 hd7
  go_wp2_with fail
  (with_reducible refine HW2.out.mono ?_); rintro e w8 ⟨rfl, hdt⟩
  have hb8 := H7.out.1.trans (hdt.bel H7.out.2)
  obtain ⟨vw8, hd8, _, _⟩ := hdt
  have hw8 : Below w.heap.size w w8 := H1.out.trans (hb8.mono HBs.out)
  have HLd := Lib.hid (dload_ok hd8 (stay_l hd8 HL.out.1 hw8 HBs.out) (fun b hb => Nat.le_trans (HL.out.2 b hb) (by decide)) (by omega))
  rw [HE4.out] at HLd
  have H8 := Lib.hid (And.intro hb8 hd8)
  clear hb8 hd8 hw8 HW2
  go_wp2_with fail
  (with_reducible refine HLd.out.mono ?_); rintro e w9 ⟨rfl, hdt⟩
  have hb9 := H8.out.1.trans (hdt.bel H8.out.2)
  obtain ⟨vw9, hd9, _, _⟩ := hdt
  have hw9 : Below w.heap.size w w9 := H1.out.trans (hb9.mono HBs.out)
  generalize hLL : L0 { pw0 F with waits := [(5, F)] } = LL at hd9
  generalize (0 + (new 6).waits.length + 1 + _ + _ + 1 : Nat) = NN at hd9
  have H9 := Lib.hid (And.intro hd9 hw9)
  clear hb9 hd9 hw9 HLd H2 H3 H5 H6 H7 H8 HFa HNw hLL
  go_wp2_with fail
  go_loopw [6] (fun vi Wx => ∃ k : Nat, k ≤ 6 ∧ vi = .int .i64 k ∧ (∃ vw, DAt LL Wx wc.heap.size NN g vs vw r d4) ∧ Below w.heap.size w Wx) (fun vi _ => 6 - (intOf vi).toNat)
  case atStart => exact ⟨0, by omega, rfl, ⟨_, H9.out.1⟩, H9.out.2⟩
  case round =>
  obtain ⟨k, hk, rfl, ⟨vw, hd⟩, hb⟩ := hrel
  by_cases hlt : k < 6
  · have dd : decide ((k : Int) < 6) = true := decide_eq_true (by omega)
    have dn : decide (k < 6) = true := decide_eq_true hlt
    have hba := below_alloc1 wr (.cells Z 5)
    obtain ⟨k1, k2⟩ := HQ4.out.2.2.2.1 k hlt
    have hi : i64 (k : Int) := by unfold i64; omega
    have hw0 : d4.waits.length ≤ 1099511627776 := by rw [HQ4.out.1]; decide
    by_cases hkl : k < l.length
    · have e1 : decide ((k : Int) < l.length) = true := decide_eq_true (by omega)
      have e2 : decide (k < l.length) = true := decide_eq_true hkl
      have bk : (k : Int) < l.length := by omega
      obtain ⟨A', c', e, hel⟩ := HL.out.1.up hb
      cases e
      obtain ⟨ad, xv, rfl, hx, hbr⟩ := hel k hkl
      obtain ⟨Ax, cx, rfl, hcx, hrx, hsx⟩ := hbr
      obtain ⟨x, hxe⟩ : ∃ x, l[k] = x := ⟨_, rfl⟩
      have hxl := HL.out.2 _ (List.getElem_mem hkl)
      rw [hxe] at hx hcx hrx hsx hxl
      have hgx : l.getD k [] = x := by rw [List.getD_eq_getElem?_getD, List.getElem?_eq_getElem hkl, ← hxe]; rfl
      have hV : rdV d4 k = pad x := (k2 hkl).trans (by rw [hgx])
      have hZt : (bv zero256).toArray = Z := by rw [← HZ.out.1]
      have hat : (wr.alloc (.cells Z 5)).heap[wr.heap.size]? = some (.cells (bv zero256).toArray 5 (0, 0)) := by rw [hZt]; exact alloc_at _ rfl
      have hx2 := cell_up hx hba
      have hrx2 := hrx.below hba
      have hpos : 0 < ((bv x).take (Nat.min x.length 256)).length → (some ⟨wr.heap.size, 0, none⟩ : Option Addr) = some ⟨wr.heap.size, 0, none⟩ ∧ ∃ ad, Ax = some ad ∧ ∀ j v, ((bv x).take (Nat.min x.length 256))[j]? = some v → (wr.alloc (.cells Z 5)).cell? (ad.add j) = some v := fun h0 => by
        have h1 : 0 < (bv x).length := by rw [List.length_take] at h0; omega
        obtain ⟨ad', e, _⟩ := hrx2.at_ h1
        refine ⟨rfl, ad', e, fun j v hj => ?_⟩
        rw [List.getElem?_take] at hj
        split at hj
        · obtain ⟨hj1, hj2⟩ := List.getElem?_eq_some_iff.1 hj
          obtain ⟨ad2, e2, hc2⟩ := hrx2.at_ hj1
          rw [e] at e2
          injection e2 with e2
          subst e2
          rw [hc2, hj2]
        · cases hj
      have hone : ∀ v ∈ (bv x).take (Nat.min x.length 256), v.oneCell' = true := fun v hv => by
        obtain ⟨c, _, rfl⟩ := List.mem_map.1 (List.mem_of_mem_take hv)
        rfl
      have hcn : ((bv x).take (Nat.min x.length 256)).length = Nat.min x.length 256 := by rw [List.length_take, bv_length]; show min (min x.length 256) x.length = min x.length 256; omega
      have hcf : 0 + ((bv x).take (Nat.min x.length 256)).length ≤ (bv zero256).length := by rw [hcn, bv_length, zero_len, Nat.zero_add]; exact Nat.min_le_right _ _
      have HCp := Lib.hid (And.intro hpos (And.intro hone (And.intro hcn hcf)))
      have HA := Lib.hid (And.intro hba (And.intro hat (And.intro hd hb)))
      have HSp := Lib.hid (splice_pad x)
      have HV := Lib.hid (And.intro k1 hV)
      have HI := Lib.hid (And.intro hi hw0)
      clear hx hrx hrx2 hba hat hd hb hgx hZt hsx hel hxl hxe hpos hone hcn hcf k1 k2 hV hi hw0
      go_wp2_with (refine Go.wpList_copy_splice (o := ⟨some 46, _, _, _, _, _⟩) rfl _ _ 78 78 rfl 5 Try.underlying78 (by kernel_rfl) (some ⟨wr.heap.size, 0, none⟩) Ax 256 256 x.length cx rfl rfl wr.heap.size 0 (bv zero256) 5 HA.out.2.1 ((bv x).take (Nat.min x.length 256)) HCp.out.2.2.1 HCp.out.1 HCp.out.2.2.2 HCp.out.2.1 wr.heap.size wr HA.out.1 (Nat.le_refl _) ?_)
      intro w3 hG hB
      have hG2 := hG.out
      rw [HSp.out] at hG2
      have hrow : SOwn w3 wr.heap.size (.slice (some ⟨wr.heap.size, 0, none⟩) 256 256) (pad x) := ⟨by rw [bv_length, pad_len], .inr ⟨wr.heap.size, 256, _, by rw [pad_len], Nat.le_refl _, hG2, by rw [pad_len]; omega, by unfold maxLen; omega, by simp [bv_length, pad_len], by rw [Nat.mul_one, ← bv_length (pad x)]; exact List.take_length⟩⟩
      have hd3 := HA.out.2.2.1.up hB
      have hb3 := below_up HA.out.2.2.2 hB
      have HRd := Lib.hid (dread_ok hd3 HI.out.2 (k : Nat) HI.out.1)
      rw [HV.out.1, HV.out.2, hz] at HRd
      have HSt := Lib.hid (stay_s hd3 hrow)
      have H3 := Lib.hid (And.intro hb3 hd3)
      clear hG hG2 hrow hd3 hb3 hB
      go_wp2_with fail
      (with_reducible refine HRd.out.mono ?_); rintro e w10 ⟨v10, rfl, ho10, hdt⟩
      have hdb := hdt.bel H3.out.2
      obtain ⟨vw10, hd10, hf10, _⟩ := hdt
      rw [HQ4.out.2.2.1] at hd10
      have t1 := conv_b (brd_own ho10) (Below.refl w10.heap.size w10)
      have t2 := conv_b (HSt.out _ hf10) (Below.refl w10.heap.size w10)
      have t3 : ((bstr (pad x)).toList == (bstr (pad x)).toList) = true := by rw [bstr_eqL]; exact decide_eq_true rfl
      obtain ⟨A10, c10, e, _⟩ := own_rd ho10
      subst e
      have H10 := Lib.hid (And.intro hd10 (H3.out.1.trans (hdb.mono HBs.out)))
      clear hdb hd10 hf10 ho10
      go_wp2
      exact ⟨⟨k + 1, by omega, by go_num, ⟨_, H10.out.1⟩, H10.out.2⟩, by simp [intOf]; omega⟩
    · have e1 : decide ((k : Int) < l.length) = false := decide_eq_false (by omega)
      have e2 : decide (k < l.length) = false := decide_eq_false hkl
      have hd3 := hd.up hba
      have hb3 := below_up hb hba
      have HRd := Lib.hid (dread_ok hd3 hw0 (k : Nat) hi)
      rw [k1, hz] at HRd
      have H3 := Lib.hid (And.intro hb3 hd3)
      clear hd3 hb3 hba hd hb k1 k2 hi hw0
      go_wp2_with fail
      (with_reducible refine HRd.out.mono ?_); rintro e w10 ⟨v10, rfl, ho10, hdt⟩
      have hdb := hdt.bel H3.out.2
      obtain ⟨vw10, hd10, hf10, _⟩ := hdt
      rw [HQ4.out.2.2.1] at hd10
      obtain ⟨A10, c10, e, _⟩ := own_rd ho10
      subst e
      have H10 := Lib.hid (And.intro hd10 (H3.out.1.trans (hdb.mono HBs.out)))
      clear hdb hd10 hf10 ho10
      go_wp2
      exact ⟨⟨k + 1, by omega, by go_num, ⟨_, H10.out.1⟩, H10.out.2⟩, by simp [intOf]; omega⟩
  · obtain rfl : k = 6 := by omega
    rw [show ((6 : Nat) : Int) = 6 from rfl]
    have HWt := Lib.hid (waits_ok hd)
    rw [HQ4.out.1, show (([] : List Wt).length : Int) = 0 from rfl] at HWt
    have HO := Lib.hid (dodd_ok hd)
    rw [HQ4.out.2.1] at HO
    have HB := Lib.hid hb
    clear hd hb
    by_cases hne : l = []
    · subst hne
      rw [show (([] : List Oc).length) = 0 from rfl]
      go_wp2_with fail
      (with_reducible refine HWt.out.mono ?_); rintro e w11 ⟨rfl, rfl⟩
      go_wp2
      go_ret
      exact ⟨rfl, HB.out⟩
    · have hO := HQ4.out.2.2.2.2 hne
      rw [hO] at HO
      have hpos : 0 < l.length := List.length_pos_iff.2 hne
      have e1 : ((l.length : Int) == 0) = false := by rw [beq_eq_false_iff_ne]; omega
      have e2 : decide ((l.length : Int) = 0) = false := decide_eq_false (by omega)
      go_wp2_with fail
      (with_reducible refine HWt.out.mono ?_); rintro e w11 ⟨rfl, rfl⟩
      go_wp2_with fail
      (with_reducible refine HO.out.mono ?_); rintro e w12 ⟨v12, rfl, ho, hb12⟩
      obtain ⟨A12, c12, e, _⟩ := own_rd ho
      subst e
      have HE := Lib.hid (below_up HB.out hb12)
      clear ho hb12
      go_wp2
      go_ret
      exact ⟨rfl, HE.out⟩
end Go.Proofs.Ythpnlgdcijmocaa.Dk
