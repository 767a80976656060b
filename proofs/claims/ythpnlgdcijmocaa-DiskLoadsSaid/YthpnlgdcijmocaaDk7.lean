/- The walks over disk's Flush, Cut, Power, Fail. -/
import Derived.Test.YthpnlgdcijmocaaDk6
namespace Go.Proofs.Ythpnlgdcijmocaa.Dk
open Go.RowKit Rg Mp
set_option linter.unusedVariables false
set_option linter.unusedSimpArgs false
def flE (d : DkS) : Nat := if brkB d = true then 20 else 0
def flD (d : DkS) : DkS := if brkB d = true then brk d else flush (brk d)
theorem flD_ok {d : DkS} (h : Ok d) : Ok (flD d) := by
  unfold flD
  split
  · exact brk_ok h
  · exact flush_ok (brk_ok h)
section
variable {L : Int → Prop} {W W' : World} {base N g r : Nat} {vs vw vf : Value} {d d' : DkS}
set_option maxHeartbeats 4000000 in
set_option maxRecDepth 100000 in
theorem dflush_ok (h : DAt (L0 d) W base N g vs vw r d) (hN : N + d.waits.length ≤ 1099511627776) (hfl : d.fates.length ≤ 4611686018427387904) (hfi : ∀ x ∈ d.fates, i64 x) :
    Calls Try.prog 39 #[.pointer (some ⟨g, 0, none⟩)] W fun e w' => e = .returned (.int .i64 (flE d : Nat)) ∧ DTo (L0 (flD d)) base (N + d.waits.length) g vs vw r (flD d) W w' := by
  have H0 := Lib.hid h
  have hi := h.ex
  obtain ⟨_, _, _, hblk, _⟩ := hi
  have HIs := Lib.hid (is_ok (cell_block hblk 0))
  have HBr := Lib.hid (broken_ok h)
  have hsm := brk_same d
  obtain ⟨B, hB⟩ : ∃ x, brkB d = x := ⟨_, rfl⟩
  have HBB := Lib.hid hB
  rw [hB] at HBr
  have HL := Lib.hid (L0_congr (d := d) (d' := brk d) hsm.2.2.2.2.1)
  have HSm := Lib.hid hsm
  have HN := Lib.hid (And.intro hN (And.intro hfl hfi))
  have hwl : d.waits.length ≤ 1099511627776 := by omega
  have hEF : (B = true → flE d = 20 ∧ flD d = brk d) ∧ (B = false → flE d = 0 ∧ flD d = flush (brk d)) := by
    unfold flE flD; rw [hB]
    exact ⟨fun h => by subst h; exact ⟨rfl, rfl⟩, fun h => by subst h; exact ⟨rfl, rfl⟩⟩
  obtain ⟨E, hE⟩ : ∃ n, flE d = n := ⟨_, rfl⟩
  obtain ⟨D, hD⟩ : ∃ n, flD d = n := ⟨_, rfl⟩
  rw [hE, hD] at hEF
  rw [hE, hD]
  have HEF := Lib.hid hEF
  clear h hblk hE hD hB hsm hN hfl hfi hEF
  go_enter Try.func39, Try.ntmps39
  go_wp2_with fail
  (with_reducible refine HIs.out.mono ?_); rintro e w1 ⟨rfl, rfl⟩
  go_wp2_with fail
  (with_reducible refine HBr.out.mono ?_); rintro e W1 ⟨rfl, vw1, hd1, hf1, hn1⟩
  rw [← HL.out] at hd1
  have H1 := Lib.hid (And.intro hd1 (And.intro hf1 hn1))
  clear hd1 hf1 hn1
  cases B with
  | true =>
    obtain ⟨rfl, rfl⟩ := HEF.out.1 rfl
    go_wp2
    go_ret
    exact ⟨rfl, (show DTo (L0 (brk d)) base N g vs vw r (brk d) W W1 from ⟨vw1, H1.out⟩).mono (by omega)⟩
  | false =>
    obtain ⟨rfl, hDf⟩ := HEF.out.2 rfl
    have HDf := Lib.hid hDf
    clear hDf
    obtain ⟨cw, _, _⟩ := H1.out.1.cell
    obtain ⟨Aw, cw', e, _⟩ := H1.out.1.w.slice
    rw [HSm.out.2.1] at e
    subst e
    obtain ⟨d1, hd1⟩ : ∃ d1, brk d = d1 := ⟨_, rfl⟩
    rw [hd1] at H1 HSm HDf
    have hwe : d1.waits = d.waits := HSm.out.2.1
    have hfe : d1.fates = d.fates := HSm.out.2.2.2.2.2
    have HWE := Lib.hid (And.intro hwe hfe)
    clear hd1 hwe hfe
    go_wp2_with fail
    clear cw
    go_loopw [17] (fun vi Wx => ∃ k : Nat, k ≤ d.waits.length ∧ vi = .int .i64 k ∧ DAt (L0 d1) Wx base N g vs (.slice Aw d.waits.length cw') r (flN d1 d.waits k) ∧ Fr (DO g vs (.slice Aw d.waits.length cw') r) W1 Wx) (fun vi _ => d.waits.length - (intOf vi).toNat)
    case atStart => exact ⟨0, by omega, rfl, H1.out.1, Fr.refl _ _⟩
    case round =>
    obtain ⟨k, hk, rfl, hd, hfr⟩ := hrel
    have HD := Lib.hid hd
    have HFr := Lib.hid hfr
    clear hd hfr
    by_cases hlt : k < d.waits.length
    · have dd : decide ((k : Int) < d.waits.length) = true := decide_eq_true (by omega)
      have dn : decide (k < d.waits.length) = true := decide_eq_true hlt
      have bk : (k : Int) < d.waits.length := by omega
      have hrest : (flN d1 d.waits k).waits = d.waits := (flN_rest d1 d.waits k).1.trans HWE.out.1
      have hwk : k < (flN d1 d.waits k).waits.length := by rw [hrest]; exact hlt
      obtain ⟨gw, c, v, e, z0, z1, hv⟩ := HD.out.w.at_ hwk
      simp only [hrest] at z0 hv e
      cases e
      have hw := H0.out.ok.wt _ (List.getElem_mem hlt)
      have hgw : d.waits.getD k (0, []) = d.waits[k] := by rw [List.getD_eq_getElem?_getD, List.getElem?_eq_getElem hlt]; rfl
      have hlen : (flN d1 d.waits k).sure.length = d.sure.length := (flN_len d1 d.waits k).trans (by rw [HSm.out.1])
      have hnext : flN d1 d.waits (k + 1) = put (flN d1 d.waits k) d.waits[k].1 d.waits[k].2 false := by show put _ (d.waits.getD k (0, [])).1 _ _ = _; rw [hgw]
      obtain ⟨i, hi⟩ : ∃ i, d.waits[k].1 = i := ⟨_, rfl⟩
      obtain ⟨b, hb⟩ : ∃ b, d.waits[k].2 = b := ⟨_, rfl⟩
      rw [hi] at hw hnext z0
      rw [hb] at hw hnext hv
      obtain ⟨D2, hDe⟩ : ∃ D, flN d1 d.waits k = D := ⟨_, rfl⟩
      rw [hDe] at HD hnext hlen
      have hiD : i < D2.sure.length := by rw [hlen]; exact hw.1
      obtain ⟨ga, cc, ev, hcc⟩ := sown_at hv (by omega)
      rw [hw.2] at ev hcc
      subst ev
      have hi2 : i ≤ 4096 := by have := H0.out.ok.many; omega
      have hba := below_alloc1 wr (.cells #[.int .i64 (i : Nat), .slice (some ⟨ga, 0, none⟩) 256 cc] 139)
      have hq1 := alloc_at (w := wr) (.cells #[.int .i64 (i : Nat), .slice (some ⟨ga, 0, none⟩) 256 cc] 139) rfl
      have HB := Lib.hid (And.intro hq1 (And.intro (HD.out.up hba) (And.intro (own_below hv hba) (HFr.out.below hba))))
      have HNx := Lib.hid hnext
      have HWh := Lib.hid (whole_ok HB.out.2.1 hiD HB.out.2.2.1 hw.2)
      clear hrest hwk hgw hlen hi hb hDe hnext hba hq1 hv hw hiD
      go_upto_region 8 with (fail)
      generalize (World.alloc wr _) = W2 at *
      clear z0 z1
      obtain ⟨e0, e1⟩ := cells2d HB.out.1
      go_wp2_with fail
      (with_reducible refine HWh.out.mono ?_); rintro e W5 ⟨rfl, hd5, hf5⟩
      have HR := Lib.hid (And.intro hd5 hf5)
      clear hd5 hf5
      go_wp2
      exact ⟨⟨k + 1, by omega, by go_num, by rw [HNx.out]; exact HR.out.1, HB.out.2.2.2.trans HR.out.2 (fun k _ h => h)⟩, by simp [intOf]; omega⟩
    · have hkl : k = d.waits.length := by omega
      subst hkl
      have dd : decide ((d.waits.length : Int) < d.waits.length) = false := decide_eq_false (by omega)
      have dn : decide (d.waits.length < d.waits.length) = false := decide_eq_false (by omega)
      obtain ⟨hx1, hx2⟩ := HD.out.clear
      obtain ⟨y1, y2, y3⟩ := HD.out.cell
      have hr := flN_rest d1 d.waits d.waits.length
      have hLL : L0 { flN d1 d.waits d.waits.length with waits := [] } = L0 d1 := L0_congr hr.2.2.1
      rw [← hLL] at hx1
      have hfa : ({ flN d1 d.waits d.waits.length with waits := [] } : DkS).fates = d.fates := hr.2.2.2.1.trans HWE.out.2
      have hDn := ddone_ok hx1 (by show N + 0 ≤ _; have := HN.out.1; omega) (by rw [hfa]; exact HN.out.2.1) (by rw [hfa]; exact HN.out.2.2)
      have HDn := Lib.hid hDn
      have HX := Lib.hid (And.intro hx1 (HFr.out.trans hx2 (fun k _ e => .inl e)))
      clear hx1 hx2 hr hLL hfa hDn
      go_upto_region 11 with (fail)
      generalize (World.setCell wr _ _) = w3 at *
      go_wp2_with fail
      (with_reducible refine HDn.out.mono ?_); rintro e w4 ⟨rfl, hdt⟩
      have hres := DTo.next H1.out.2.1 H1.out.2.2 (DTo.next HX.out.2 (fun k h => by simp [Value.ownBlock] at h) hdt)
      have hfd : flush d1 = done { flN d1 d.waits d.waits.length with waits := [] } := by unfold flush; rw [HWE.out.1]
      rw [← hfd, ← HDf.out] at hres
      have HRes := Lib.hid (hres.mono (show N + 0 ≤ N + d.waits.length by omega))
      clear hdt hres hfd
      go_wp2
      go_ret
      exact ⟨rfl, HRes.out⟩
end
end Go.Proofs.Ythpnlgdcijmocaa.Dk
