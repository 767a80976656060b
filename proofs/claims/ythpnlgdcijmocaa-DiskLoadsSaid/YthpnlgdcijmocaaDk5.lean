/- The walks over disk's settle, fall, done. -/
import Derived.Test.YthpnlgdcijmocaaDk4
namespace Go.Proofs.Ythpnlgdcijmocaa.Dk
open Go.RowKit Rg Mp
set_option linter.unusedVariables false
set_option linter.unusedSimpArgs false
/-- How long the power is on still. -/
def L0 (d : DkS) : Int → Prop := fun lf => 0 < d.cut → lf = d.cut
section
variable {L : Int → Prop} {W W' : World} {base N g r : Nat} {vs vw : Value} {d : DkS}
/-- Nothing waits. -/
theorem DAt.clear (h : DAt L W base N g vs vw r d) : DAt L (W.setCell ⟨g, 2, none⟩ (.slice none 0 0)) base N g vs (.slice none 0 0) r { d with waits := [] } ∧ Fr (fun k => k = g) W (W.setCell ⟨g, 2, none⟩ (.slice none 0 0)) := by
  obtain ⟨gb, ok, vf, lf, cl, hb, hq, h3, h4⟩ := h
  have hf := fr_set1 W g 2 (.slice none 0 0)
  have hq2 := hq.fr_g hb hf
  have hb2 := blk_set hb 2 (.slice none 0 0)
  exact ⟨⟨gb, nowaits_ok ok, vf, lf, cl, by simpa using hb2, ⟨hq2.s, ⟨[], ⟨rfl, .inl ⟨rfl, rfl⟩⟩, rfl, fun i h => by simp at h⟩, hq2.m, hq2.rb, hq2.f⟩, h3, h4⟩, hf⟩
theorem DAt.cell (h : DAt L W base N g vs vw r d) : W.cell? ⟨g, 2, none⟩ = some vw ∧ W.cell? ⟨g, 1, none⟩ = some vs ∧ ∀ j, W.frozen? ⟨g, j, none⟩ = false := by
  obtain ⟨gb, ok, vf, lf, cl, hb, hq, h3, h4⟩ := h
  exact ⟨cell_block hb 2, cell_block hb 1, free_block hb⟩
theorem DAt.w (h : DAt L W base N g vs vw r d) : WAt W base vw d.waits := by
  obtain ⟨gb, ok, vf, lf, cl, hb, hq, h3, h4⟩ := h
  exact hq.w
theorem DAt.s (h : DAt L W base N g vs vw r d) : SAt W base vs d.sure := by
  obtain ⟨gb, ok, vf, lf, cl, hb, hq, h3, h4⟩ := h
  exact hq.s
theorem tmod_n {f : Int} (h : 2 ≤ f) : Int.tmod (f - 2) 256 = (((f - 2) % 256).toNat : Int) := by
  rw [Int.tmod_eq_emod_of_nonneg (by omega)]
  omega
set_option maxHeartbeats 8000000 in
set_option maxRecDepth 100000 in
theorem dsettle_ok (h : DAt L W base N g vs vw r d) (hN : N + d.waits.length ≤ 1099511627776) {vf : Value} {fs : List Int} (hf : ∀ W', Fr (DO g vs vw r) W W' → IRd W' vf fs) (hfl : fs.length ≤ 4611686018427387904) (hfi : ∀ x ∈ fs, i64 x) :
    Calls Try.prog 79 #[.pointer (some ⟨g, 0, none⟩), vf] W fun e w' => e = .returned (.tuple #[]) ∧ DTo L base (N + d.waits.length) g vs vw r (settle d fs) W w' := by
  have H0 := Lib.hid h
  have HF := Lib.hid hf
  have HFi := Lib.hid hfi
  obtain ⟨Af, cf, rfl, _, _⟩ := hf W (Fr.refl _ _)
  obtain ⟨Aw, cw, rfl, hcw⟩ := h.w.slice
  obtain ⟨c2, _, _⟩ := h.cell
  have hwl : d.waits.length ≤ 1099511627776 := by omega
  clear h hf hfi
  go_enter Try.func79, Try.ntmps79
  go_wp2_with fail
  clear c2
  go_loopw [12] (fun vi Wx => ∃ k : Nat, k ≤ d.waits.length ∧ vi = .int .i64 k ∧ DAt L Wx base (N + k) g vs (.slice Aw d.waits.length cw) r (setN d d.waits fs k) ∧ Fr (DO g vs (.slice Aw d.waits.length cw) r) W Wx) (fun vi _ => d.waits.length - (intOf vi).toNat)
  case atStart => exact ⟨0, by omega, rfl, H0.out, Fr.refl _ _⟩
  case round =>
  obtain ⟨k, hk, rfl, hd, hfr⟩ := hrel
  have HD := Lib.hid hd
  have HFr := Lib.hid hfr
  clear hd hfr
  by_cases hlt : k < d.waits.length
  · have dd : decide ((k : Int) < d.waits.length) = true := decide_eq_true (by omega)
    have dn : decide (k < d.waits.length) = true := decide_eq_true hlt
    have bk : (k : Int) < d.waits.length := by omega
    have hrest := (setN_rest d d.waits fs k).1
    have hwk : k < (setN d d.waits fs k).waits.length := by rw [hrest]; exact hlt
    obtain ⟨gw, c, v, e, z0, z1, hv⟩ := HD.out.w.at_ hwk
    simp only [hrest] at z0 hv e
    cases e
    have hw := H0.out.ok.wt _ (List.getElem_mem hlt)
    have hgw : d.waits.getD k (0, []) = d.waits[k] := by rw [List.getD_eq_getElem?_getD, List.getElem?_eq_getElem hlt]; rfl
    have hlen := setN_len d d.waits fs k
    obtain ⟨f, hfe⟩ : ∃ f, fs.getD k 0 = f := ⟨_, rfl⟩
    have hnext : setN d d.waits fs (k + 1) = fate1 (setN d d.waits fs k) d.waits[k] f := by show fate1 _ (d.waits.getD k (0, [])) (fs.getD k 0) = _; rw [hgw, hfe]
    have hfi : i64 f := by
      rw [← hfe, List.getD_eq_getElem?_getD]
      by_cases hk2 : k < fs.length
      · rw [List.getElem?_eq_getElem hk2]; exact HFi.out _ (List.getElem_mem hk2)
      · rw [List.getElem?_eq_none (by omega)]; unfold i64; decide
    obtain ⟨i, hi⟩ : ∃ i, d.waits[k].1 = i := ⟨_, rfl⟩
    obtain ⟨b, hb⟩ : ∃ b, d.waits[k].2 = b := ⟨_, rfl⟩
    have hib : d.waits[k] = (i, b) := by rw [← hi, ← hb]
    rw [hib] at hw hnext z0 hv
    simp only at hw z0 hv
    obtain ⟨D, hDe⟩ : ∃ D, setN d d.waits fs k = D := ⟨_, rfl⟩
    rw [hDe] at HD hnext hlen
    have hD' : ∃ D', setN d d.waits fs (k + 1) = D' := ⟨_, rfl⟩
    obtain ⟨D', hD'⟩ := hD'
    rw [hD'] at hnext
    have hiD : i < D.sure.length := by rw [hlen]; exact hw.1
    obtain ⟨ga, cc, ev, hcc⟩ := sown_at hv (by omega)
    rw [hw.2] at ev hcc
    subst ev
    have hi2 : i ≤ 4096 := by have := H0.out.ok.many; omega
    have hba := below_alloc1 wr (.cells #[.int .i64 (i : Nat), .slice (some ⟨ga, 0, none⟩) 256 cc] 139)
    have hq1 := alloc_at (w := wr) (.cells #[.int .i64 (i : Nat), .slice (some ⟨ga, 0, none⟩) 256 cc] 139) rfl
    have HB := Lib.hid (And.intro hq1 (And.intro (HD.out.up hba) (And.intro (own_below hv hba) (HFr.out.below hba))))
    have HNx := Lib.hid (And.intro hnext hD')
    have HIr := Lib.hid (HF.out _ (HFr.out.below hba))
    have HW := Lib.hid (And.intro hw.2 hiD)
    have hfb := hfi
    unfold i64 at hfb
    clear hrest hwk hgw hlen hib hi hb hDe hD' hnext hba hq1 hv hw hiD hfi
    go_upto_region 4 with (fail)
    generalize (World.alloc wr _) = W1 at *
    clear z0 z1
    obtain ⟨e0, e1⟩ := cells2d HB.out.1
    go_upto_if 20 with (fail)
    go_cut [6] from 20 to 24 (fun v6 wx => v6 = .int .i64 f ∧ W1 = wx)
    case first =>
      by_cases hk2 : k < fs.length
      · obtain ⟨ad, e, hc⟩ := HIr.out.get hk2
        subst e
        have hfk : fs[k] = f := by rw [← hfe, List.getD_eq_getElem?_getD, List.getElem?_eq_getElem hk2]; rfl
        rw [hfk] at hc
        have k1 : decide ((k : Int) < fs.length) = true := decide_eq_true (by omega)
        have k2 : decide (k < fs.length) = true := decide_eq_true hk2
        have b2 : (k : Int) < fs.length := by omega
        clear hfe hfk hk2
        go_wp2
        go_meet
        case rel => exact ⟨rfl, rfl⟩
      · have k1 : decide ((k : Int) < fs.length) = false := decide_eq_false (by omega)
        have k2 : decide (k < fs.length) = false := decide_eq_false hk2
        have hf0 : f = 0 := by rw [← hfe, List.getD_eq_getElem?_getD, List.getElem?_eq_none (by omega)]; rfl
        subst hf0
        clear hfe
        go_wp2
        go_meet
        case rel => exact ⟨rfl, rfl⟩
    case rest =>
    obtain ⟨rfl, hw1⟩ := hcut
    subst hw1
    clear hfe
    by_cases hf1 : f = 1
    · have HWh := Lib.hid (whole_ok HB.out.2.1 HW.out.2 HB.out.2.2.1 HW.out.1)
      have hE : D' = put D i b false := by rw [HNx.out.1]; unfold fate1; rw [if_pos hf1]
      have HE := Lib.hid hE
      clear hE
      subst hf1
      go_wp2_with fail
      (with_reducible refine HWh.out.mono ?_); rintro e W5 ⟨rfl, hd5, hf5⟩
      have HR := Lib.hid (And.intro hd5 hf5)
      clear hd5 hf5
      go_wp2
      exact ⟨⟨k + 1, by omega, by go_num, by rw [HNx.out.2, HE.out]; exact HR.out.1.mono (by omega), HB.out.2.2.2.trans HR.out.2 (fun k _ h => h)⟩, by simp [intOf]; omega⟩
    · have k1 : (f == 1) = false := by rw [beq_eq_false_iff_ne]; exact hf1
      have k2 : decide (f = 1) = false := decide_eq_false hf1
      by_cases hf2 : f < 2
      · have k3 : decide ((2 : Int) ≤ f) = false := decide_eq_false (by omega)
        have hE : D' = D := by rw [HNx.out.1]; unfold fate1; rw [if_neg hf1, if_pos hf2]
        have HE := Lib.hid hE
        clear hE
        go_wp2
        exact ⟨⟨k + 1, by omega, by go_num, by rw [HNx.out.2, HE.out]; exact HB.out.2.1.mono (by omega), HB.out.2.2.2⟩, by simp [intOf]; omega⟩
      · have k3 : decide ((2 : Int) ≤ f) = true := decide_eq_true (by omega)
        have kw : IntKind.i64.wrap (f - 2) = f - 2 := by rw [IntWalk.i64_in _ (by omega)]
        have kt := tmod_n (f := f) (by omega)
        have hE : D' = tear D (i, b) ((f - 2) % 256).toNat := by rw [HNx.out.1]; unfold fate1; rw [if_neg hf1, if_neg hf2]
        have hn : ((f - 2) % 256).toNat ≤ 256 := by omega
        have hem : (f - 2) % 256 = (((f - 2) % 256).toNat : Int) := by omega
        obtain ⟨n, hne⟩ : ∃ n, ((f - 2) % 256).toNat = n := ⟨_, rfl⟩
        rw [hne] at hE hn kt hem
        have HWh := Lib.hid (dtear_ok HB.out.2.1 (by omega) HW.out.2 HB.out.2.2.1 HW.out.1 hn)
        have HE := Lib.hid hE
        clear hE hne hn
        go_wp2_with fail
        (with_reducible refine HWh.out.mono ?_); rintro e W5 ⟨rfl, hd5, hf5⟩
        have HR := Lib.hid (And.intro hd5 hf5)
        clear hd5 hf5
        go_wp2
        exact ⟨⟨k + 1, by omega, by go_num, by rw [HNx.out.2, HE.out]; exact HR.out.1.mono (by omega), HB.out.2.2.2.trans HR.out.2 (fun k _ h => h)⟩, by simp [intOf]; omega⟩
  · have hkl : k = d.waits.length := by omega
    subst hkl
    have dd : decide ((d.waits.length : Int) < d.waits.length) = false := decide_eq_false (by omega)
    have dn : decide (d.waits.length < d.waits.length) = false := decide_eq_false (by omega)
    obtain ⟨hx1, hx2⟩ := HD.out.clear
    obtain ⟨y1, y2, y3⟩ := HD.out.cell
    have HX := Lib.hid (And.intro hx1 (HFr.out.trans hx2 (fun k _ e => .inl e)))
    clear hx1 hx2
    go_wp2
    go_end0
    exact ⟨rfl, _, HX.out.1, HX.out.2, fun k h => by simp [Value.ownBlock] at h⟩
theorem DAt.imp {L' : Int → Prop} (h : DAt L W base N g vs vw r d) (hl : ∀ x, L x → L' x) : DAt L' W base N g vs vw r d := by
  obtain ⟨gb, ok, vf, lf, cl, hb, hq, h3, h4⟩ := h
  exact ⟨gb, ok, vf, lf, cl, hb, hq, ⟨hl _ h3.1, h3.2⟩, h4⟩
theorem DTo.imp {L' : Int → Prop} (h : DTo L base N g vs vw r d W W') (hl : ∀ x, L x → L' x) : DTo L' base N g vs vw r d W W' := by
  obtain ⟨vw', h1, h2, h3⟩ := h
  exact ⟨vw', h1.imp hl, h2, h3⟩
theorem L0_zero {d : DkS} (h : d.cut = 0) (x : Int) : L0 d x := fun h0 => by omega
/-- Power off. -/
theorem DAt.fallen (h : DAt L W base N g vs vw r d) : DTo L base N g vs vw r { d with off := true, cut := 0 } W ((W.setCell ⟨g, 4, none⟩ (.bool true)).setCell ⟨g, 5, none⟩ (.bool false)) := by
  obtain ⟨gb, ok, vf, lf, cl, hb, hq, h3, h4⟩ := h
  have hb2 := blk_set (blk_set hb 4 (.bool true)) 5 (.bool false)
  exact DTo.of_g (lf' := lf) (cl' := cl) gb hb hq (((Fr.refl (fun k => k = g) W).set (p := ⟨g, 4, none⟩) (fun _ => rfl) (.bool true)).set (p := ⟨g, 5, none⟩) (fun _ => rfl) (.bool false)) (by simpa using hb2) rfl rfl (fun _ => rfl) rfl
    ⟨ok.sec, ok.wt, ok.odd, ok.many, ok.fail, by show (0 : Nat) ≤ _; omega⟩ h3 h4
set_option maxHeartbeats 2000000 in
theorem dfall_ok (h : DAt L W base N g vs vw r d) (hN : N + d.waits.length ≤ 1099511627776) {vf : Value} {fs : List Int} (hf : ∀ W', Fr (DO g vs vw r) W W' → IRd W' vf fs) (hfl : fs.length ≤ 4611686018427387904) (hfi : ∀ x ∈ fs, i64 x) :
    Calls Try.prog 77 #[.pointer (some ⟨g, 0, none⟩), vf] W fun e w' => e = .returned (.tuple #[]) ∧ DTo L base (N + d.waits.length) g vs vw r (fall d fs) W w' := by
  have HS := Lib.hid (dsettle_ok h hN hf hfl hfi)
  obtain ⟨Af, cf, rfl, _, _⟩ := hf W (Fr.refl _ _)
  clear h hf hfi hN hfl
  go_enter Try.func77, Try.ntmps77
  go_wp2_with fail
  (with_reducible refine HS.out.mono ?_); rintro e W1 ⟨rfl, vw', hd, hfr, hn⟩
  obtain ⟨_, _, fz⟩ := hd.cell
  obtain ⟨vf, lf, cl, hb, _⟩ := hd.ex
  obtain ⟨⟨_, _, _, _, c4⟩, ⟨c5, _⟩⟩ := db_cells hb
  have HR := Lib.hid (DTo.next hfr hn hd.fallen)
  clear hd hfr hn hb
  go_wp2
  go_end0
  exact ⟨rfl, HR.out⟩
set_option maxHeartbeats 2000000 in
set_option maxRecDepth 100000 in
theorem ddone_ok (h : DAt (L0 d) W base N g vs vw r d) (hN : N + d.waits.length ≤ 1099511627776) (hfl : d.fates.length ≤ 4611686018427387904) (hfi : ∀ x ∈ d.fates, i64 x) :
    Calls Try.prog 75 #[.pointer (some ⟨g, 0, none⟩)] W fun e w' => e = .returned (.tuple #[]) ∧ DTo (L0 (done d)) base (N + d.waits.length) g vs vw r (done d) W w' := by
  have H0 := Lib.hid h
  have hcut := h.ok.cut
  obtain ⟨gb, ok, vf, lf, cl, hb, hq, h3, h4⟩ := h
  obtain ⟨⟨_, _, _, _, c4⟩, ⟨c5, c6, c7, _⟩⟩ := db_cells hb
  have fz := free_block hb
  by_cases h0 : d.cut = 0
  · have e1 : done d = d := by unfold done; rw [if_pos h0]
    rw [e1]
    have k1 : decide (0 < d.cut) = false := decide_eq_false (by omega)
    rw [k1] at c5
    clear hb hq h3 h4 gb ok hfl hfi hN hcut e1
    go_enter Try.func75, Try.ntmps75
    go_wp2
    (try simp only [Exit.inBlock, Exit.then])
    refine bodyPost_ret (results_none rfl _ _ _) rfl ?_
    exact ⟨rfl, (DTo.refl H0.out (Below.refl _ _)).mono (by omega)⟩
  · have k1 : decide (0 < d.cut) = true := decide_eq_true (by omega)
    obtain rfl := h3.1 (by omega)
    have hb1 := blk_set hb 6 (.int .i64 ((d.cut : Int) - 1))
    have hf1 := fr_set1 W g 6 (.int .i64 ((d.cut : Int) - 1))
    have kw : IntKind.i64.wrap ((d.cut : Int) - 1) = (d.cut : Int) - 1 := by rw [IntWalk.i64_in _ (by omega)]
    obtain ⟨Af, cf, rfl, _⟩ := hq.f.slice
    have hq1 := hq.fr_g hb hf1
    rw [k1] at c5
    by_cases h1 : d.cut = 1
    · have e1 : done d = fall d d.fates := by unfold done; rw [if_neg h0, if_pos h1]
      rw [e1]
      have hl0 := L0_zero (d := fall d d.fates) rfl
      have hD1 : DAt (fun _ => True) (W.setCell ⟨g, 6, none⟩ (.int .i64 ((d.cut : Int) - 1))) base N g vs vw r d := ⟨gb, ok, _, (d.cut : Int) - 1, cl, by simpa using hb1, hq1, ⟨trivial, by unfold i64; omega⟩, h4⟩
      have HFa := Lib.hid (dfall_ok hD1 hN (fs := d.fates) (vf := .slice Af d.fates.length cf) (fun W' hfr => (hq1.f.fr hfr (fun k hk cs => by
        rcases hk with e | e | e | e
        · subst e; exact cells_ne hb1 (by decide)
        · obtain ⟨sv, a1, _⟩ := hq1.s
          obtain ⟨c1, hc1⟩ := own_typed a1 k e
          exact cells_ne hc1 (by decide)
        · obtain ⟨wv, a1, _⟩ := hq1.w
          obtain ⟨c1, hc1⟩ := own_typed a1 k e
          exact cells_ne hc1 (by decide)
        · subst e; exact map_ne hq1.m)).ird) hfl hfi)
      have HF1 := Lib.hid hf1
      rw [h1] at HFa HF1
      rw [h1] at c6
      have c7' := cell_block hb1 7
      rw [h1] at c7'
      have kz : ((1 : Nat) : Int) - 1 = 0 := by decide
      rw [kz] at HFa HF1 c7'
      rw [show ((1 : Nat) : Int) = 1 from rfl] at c6
      clear hb hb1 hq hq1 h3 h4 gb ok hf1 hfl hfi hN hcut h0 e1 hD1 kw k1 kz
      go_enter Try.func75, Try.ntmps75
      go_wp2_with fail
      (with_reducible refine HFa.out.mono ?_); rintro e W1 ⟨rfl, hd⟩
      have HR := Lib.hid (DTo.next (HF1.out.mono (fun k _ e => .inl e)) (fun k hk => .inl hk) (hd.imp (fun x _ => hl0 x)))
      clear hd hl0
      go_wp2
      go_end0
      exact ⟨rfl, HR.out⟩
    · have e1 : done d = { d with cut := d.cut - 1 } := by unfold done; rw [if_neg h0, if_neg h1]
      rw [e1]
      have hok : Ok { d with cut := d.cut - 1 } := by rw [← e1]; exact done_ok ok
      have hT : DTo (L0 { d with cut := d.cut - 1 }) base N g vs vw r { d with cut := d.cut - 1 } W (W.setCell ⟨g, 6, none⟩ (.int .i64 ((d.cut : Int) - 1))) :=
        DTo.of_g (L := L0 { d with cut := d.cut - 1 }) (d' := { d with cut := d.cut - 1 }) (lf' := (d.cut : Int) - 1) (cl' := cl) gb hb hq (hf1.mono (fun k _ e => e)) (by
          have : decide (0 < d.cut - 1) = true := decide_eq_true (by omega)
          show DB _ g vs vw r d.off (decide (0 < d.cut - 1)) _ _ _ _
          rw [this, ← k1]
          simpa using hb1) rfl rfl (fun _ => rfl) rfl hok ⟨fun _ => by show (d.cut : Int) - 1 = ((d.cut - 1 : Nat) : Int); omega, by unfold i64; omega⟩ h4
      have HT := Lib.hid (hT.mono (show N ≤ N + d.waits.length by omega))
      have k2 : decide ((d.cut : Int) - 1 ≤ 0) = false := decide_eq_false (by omega)
      have k3 : ¬ ((d.cut : Int) ≤ 1) := by omega
      have k4 : decide ((d.cut : Int) ≤ 1) = false := decide_eq_false (by omega)
      have k5 : ¬ (d.cut ≤ 1) := by omega
      have k6 : decide (d.cut ≤ 1) = false := decide_eq_false k5
      clear hb hb1 hq hq1 h3 h4 gb ok hf1 hfl hfi hN e1 hok hT
      go_enter Try.func75, Try.ntmps75
      go_wp2
      go_end0
      exact ⟨rfl, HT.out⟩
end
end Go.Proofs.Ythpnlgdcijmocaa.Dk
