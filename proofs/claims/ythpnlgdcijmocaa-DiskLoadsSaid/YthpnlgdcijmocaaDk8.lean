/- The walks over disk's Cut, Power, Fail, New. -/
import Derived.Test.YthpnlgdcijmocaaDk7
namespace Go.Proofs.Ythpnlgdcijmocaa.Dk
open Go.RowKit Rg Mp
set_option linter.unusedVariables false
set_option linter.unusedSimpArgs false
section
variable {L : Int → Prop} {W W' : World} {base N g r : Nat} {vs vw vf : Value} {d d' : DkS}
set_option maxHeartbeats 4000000 in
set_option maxRecDepth 100000 in
theorem dcut_ok (h : DAt (L0 d) W base N g vs vw r d) (hN : N + d.waits.length ≤ 1099511627776) (after : Int) (ha : i64 after) {vf : Value} {fs : List Int} (hf : ∀ W', Fr (DO g vs vw r) W W' → IRd W' vf fs) (hfl : fs.length ≤ 4611686018427387904) (hfi : ∀ x ∈ fs, i64 x) (hfs : fs.length ≤ 17592186044416) :
    Calls Try.prog 40 #[.pointer (some ⟨g, 0, none⟩), .int .i64 after, vf] W fun e w' => e = .returned (.tuple #[]) ∧ DTo (L0 (cutD d after fs)) base (N + d.waits.length) g vs vw r (cutD d after fs) W w' := by
  have H0 := Lib.hid h
  have HFi := Lib.hid (hf W (Fr.refl _ _))
  obtain ⟨Af, cf, rfl, _, _⟩ := hf W (Fr.refl _ _)
  obtain ⟨vf0, lf, cl, hb, hq, h3, h4⟩ := h.ex
  have HIs := Lib.hid (is_ok (cell_block hb 0))
  obtain ⟨⟨_, _, _, _, c4⟩, ⟨c5, c6, c7, _⟩⟩ := db_cells hb
  have fz := free_block hb
  obtain ⟨o, ho⟩ : ∃ o, d.off = o := ⟨_, rfl⟩
  rw [ho] at c4
  have hcd : cutD d after fs = if o = true then d else if after ≤ 0 then fall d fs else { d with cut := after.toNat, fates := fs } := by unfold cutD; rw [ho]
  have HFall := Lib.hid (dfall_ok h hN (vf := .slice Af fs.length cf) (fs := fs) hf hfl hfi)
  rw [hcd]
  cases o with
  | true =>
    rw [if_pos rfl]
    clear hb hq h3 h4 hf hfi hcd h hN hfl hfs
    go_enter Try.func40, Try.ntmps40
    go_wp2_with fail
    (with_reducible refine HIs.out.mono ?_); rintro e w1 ⟨rfl, rfl⟩
    go_wp2
    (try simp only [Exit.inBlock, Exit.then])
    refine bodyPost_ret (results_none rfl _ _ _) rfl ?_
    exact ⟨rfl, (DTo.refl H0.out (Below.refl _ _)).mono (by omega)⟩
  | false =>
    rw [if_neg (by decide)]
    by_cases c1 : after ≤ 0
    · rw [if_pos c1]
      have k1 : decide (after ≤ 0) = true := decide_eq_true c1
      have hl0 := L0_zero (d := fall d fs) rfl
      clear hb hq h3 h4 hf hfi hcd h hN hfl hfs c5 c6 c7
      go_enter Try.func40, Try.ntmps40
      go_wp2_with fail
      (with_reducible refine HIs.out.mono ?_); rintro e w1 ⟨rfl, rfl⟩
      go_wp2_with fail
      (with_reducible refine HFall.out.mono ?_); rintro e w2 ⟨rfl, hd⟩
      have HR := Lib.hid (hd.imp (fun x _ => hl0 x))
      clear hd hl0
      go_wp2
      (try simp only [Exit.inBlock, Exit.then])
      refine bodyPost_ret (results_none rfl _ _ _) rfl ?_
      exact ⟨rfl, HR.out⟩
    · rw [if_neg c1]
      have k1 : decide (after ≤ 0) = false := decide_eq_false c1
      have HCl := Lib.hid (iclone_ok (.slice Af fs.length cf) fs W HFi.out hfs)
      have ha2 := ha
      unfold i64 at ha2
      have HX := Lib.hid (And.intro hb (And.intro hq (And.intro ha h4)))
      clear hb hq h3 h4 hf hfi hcd h hN hfl hfs c5 c6 c7 fz ha
      go_enter Try.func40, Try.ntmps40
      go_wp2_with fail
      (with_reducible refine HIs.out.mono ?_); rintro e w1 ⟨rfl, rfl⟩
      go_wp2_with fail
      (with_reducible refine HCl.out.mono ?_); rintro e W1 ⟨v1, rfl, ho1, hb1⟩
      have hblk := block_up HX.out.1 hb1
      obtain ⟨⟨_, _, _, _, c4'⟩, ⟨c5, c6, c7, _⟩⟩ := db_cells hblk
      have fz := free_block hblk
      have hbs := blk_set (blk_set (blk_set hblk 5 (.bool true)) 6 (.int .i64 after)) 7 v1
      have hf3 := (((Fr.refl (fun k => k = g) W1).set (p := ⟨g, 5, none⟩) (fun _ => rfl) (.bool true)).set (p := ⟨g, 6, none⟩) (fun _ => rfl) (.int .i64 after)).set (p := ⟨g, 7, none⟩) (fun _ => rfl) v1
      have hq3 := (HX.out.2.1.up hb1).fr_g hblk hf3
      have hfo : FOwn W1 base v1 fs := .inr (own_lower ho1 H0.out.hasbase)
      have hfo3 := hfo.fr hf3 (fun k e cs => by subst e; exact cells_ne hblk (by decide))
      have hpos : decide (0 < after.toNat) = true := decide_eq_true (by omega)
      have hok : Ok { d with cut := after.toNat, fates := fs } := ⟨H0.out.ok.sec, H0.out.ok.wt, H0.out.ok.odd, H0.out.ok.many, H0.out.ok.fail, by show after.toNat ≤ _; omega⟩
      have hd3 : DAt (L0 { d with cut := after.toNat, fates := fs }) (((W1.setCell ⟨g, 5, none⟩ (.bool true)).setCell ⟨g, 6, none⟩ (.int .i64 after)).setCell ⟨g, 7, none⟩ v1) base N g vs vw r { d with cut := after.toNat, fates := fs } :=
        ⟨H0.out.gb, hok, v1, after, cl, by
          show DB _ g vs vw r d.off (decide (0 < after.toNat)) _ _ _ _
          rw [hpos]
          simpa using hbs, ⟨hq3.s, hq3.w, hq3.m, hq3.rb, hfo3⟩, ⟨fun _ => by show after = ((after.toNat : Nat) : Int); omega, HX.out.2.2.1⟩, HX.out.2.2.2⟩
      have HR : Hid (DTo (L0 { d with cut := after.toNat, fates := fs }) base (N + d.waits.length) g vs vw r { d with cut := after.toNat, fates := fs } W (((W1.setCell ⟨g, 5, none⟩ (.bool true)).setCell ⟨g, 6, none⟩ (.int .i64 after)).setCell ⟨g, 7, none⟩ v1)) := Lib.hid
        ⟨vw, hd3.mono (by omega), (Fr.of_below hb1).trans hf3 (fun k _ e => .inl e), fun k hk => .inl hk⟩
      obtain ⟨A1, c1', e1, _⟩ := own_rd ho1
      subst e1
      clear hblk hbs hf3 hq3 hfo hfo3 hpos hok hd3 ho1 hb1 c4'
      go_wp2
      go_end0
      exact ⟨rfl, HR.out⟩
set_option maxHeartbeats 4000000 in
set_option maxRecDepth 100000 in
theorem dpower_ok (h : DAt (L0 d) W base N g vs vw r d) (hN : N + d.waits.length ≤ 1099511627776) {vf : Value} {fs : List Int} (hf : ∀ W', Fr (DO g vs vw r) W W' → IRd W' vf fs) (hfl : fs.length ≤ 4611686018427387904) (hfi : ∀ x ∈ fs, i64 x) :
    Calls Try.prog 42 #[.pointer (some ⟨g, 0, none⟩), vf] W fun e w' => e = .returned (.tuple #[]) ∧ DTo (L0 (power d fs)) base (N + d.waits.length) g vs vw r (power d fs) W w' := by
  have H0 := Lib.hid h
  obtain ⟨Af, cf, rfl, _, _⟩ := hf W (Fr.refl _ _)
  obtain ⟨vf0, lf, cl, hb, hq, h3, h4⟩ := h.ex
  have HIs := Lib.hid (is_ok (cell_block hb 0))
  obtain ⟨⟨_, _, _, _, c4⟩, _⟩ := db_cells hb
  obtain ⟨o, ho⟩ : ∃ o, d.off = o := ⟨_, rfl⟩
  rw [ho] at c4
  have hpw : power d fs = { (if o = true then d else settle d fs) with off := false, cut := 0, fail := -1 } := by unfold power; rw [ho]
  have HSet := Lib.hid (dsettle_ok h hN (vf := .slice Af fs.length cf) (fs := fs) hf hfl hfi)
  have hl0 := L0_zero (d := power d fs) rfl
  have HPw := Lib.hid hpw
  have HL := Lib.hid hl0
  have HEnd : Hid (∀ (W1 : World) (vw1 : Value) (d1 : DkS) (L1 : Int → Prop), power d fs = { d1 with off := false, cut := 0, fail := -1 } → Ok d1 → DAt L1 W1 base (N + d.waits.length) g vs vw1 r d1 → Fr (DO g vs vw r) W W1 → (∀ k, vw1.ownBlock = some k → vw.ownBlock = some k ∨ W.heap.size ≤ k) →
      (W1.cell? ⟨g, 4, none⟩ ≠ none ∧ W1.cell? ⟨g, 5, none⟩ ≠ none ∧ W1.cell? ⟨g, 8, none⟩ ≠ none) ∧ (∀ j, W1.frozen? ⟨g, j, none⟩ = false) ∧
      DTo (L0 (power d fs)) base (N + d.waits.length) g vs vw r (power d fs) W (((W1.setCell ⟨g, 4, none⟩ (.bool false)).setCell ⟨g, 5, none⟩ (.bool false)).setCell ⟨g, 8, none⟩ (.bool false))) := Lib.hid (fun W1 vw1 d1 L1 hp hok1 hd1 hfr hn => by
    obtain ⟨vf1, lf1, cl1, hb1, hq1, h31, h41⟩ := hd1.ex
    have hbs := blk_set (blk_set (blk_set hb1 4 (.bool false)) 5 (.bool false)) 8 (.bool false)
    have hf3 := (((Fr.refl (fun k => k = g) W1).set (p := ⟨g, 4, none⟩) (fun _ => rfl) (.bool false)).set (p := ⟨g, 5, none⟩) (fun _ => rfl) (.bool false)).set (p := ⟨g, 8, none⟩) (fun _ => rfl) (.bool false)
    refine ⟨⟨by rw [cell_block hb1]; simp, by rw [cell_block hb1]; simp, by rw [cell_block hb1]; simp⟩, free_block hb1, ?_⟩
    have hokp : Ok (power d fs) := power_ok H0.out.ok fs
    refine DTo.next hfr hn (DTo.of_g (L := L0 (power d fs)) (d' := power d fs) (lf' := lf1) (cl' := cl1) H0.out.gb hb1 hq1 hf3 ?_ (by rw [hp]) (by rw [hp]) (fun a => by rw [hp]; rfl) (by rw [hp]) hokp ⟨hl0 lf1, h31.2⟩ ⟨fun h => by rw [hp] at h; have : (0 : Int) ≤ -1 := h; omega, h41.2⟩)
    rw [hp]
    simpa using hbs)
  clear hb hq h3 h4 hf hfi hpw h hN hfl hl0
  go_enter Try.func42, Try.ntmps42
  go_wp2_with fail
  (with_reducible refine HIs.out.mono ?_); rintro e w1 ⟨rfl, rfl⟩
  cases o with
  | true =>
    obtain ⟨⟨q4, q5, q8⟩, fz, hres⟩ := HEnd.out W vw d (L0 d) (by rw [HPw.out, if_pos rfl]) H0.out.ok (H0.out.mono (by omega)) (Fr.refl _ _) (fun k hk => .inl hk)
    obtain ⟨v4, q4⟩ := Option.ne_none_iff_exists'.1 q4
    obtain ⟨v5, q5⟩ := Option.ne_none_iff_exists'.1 q5
    obtain ⟨v8, q8⟩ := Option.ne_none_iff_exists'.1 q8
    have HR := Lib.hid hres
    clear hres
    go_wp2
    go_end0
    exact ⟨rfl, HR.out⟩
  | false =>
    go_wp2_with fail
    (with_reducible refine HSet.out.mono ?_); rintro e W1 ⟨rfl, vw1, hd1, hfr1, hn1⟩
    obtain ⟨⟨q4, q5, q8⟩, fz, hres⟩ := HEnd.out W1 vw1 (settle d fs) (L0 d) (by rw [HPw.out]; rfl) (settle_ok H0.out.ok fs) hd1 hfr1 hn1
    obtain ⟨v4, q4⟩ := Option.ne_none_iff_exists'.1 q4
    obtain ⟨v5, q5⟩ := Option.ne_none_iff_exists'.1 q5
    obtain ⟨v8, q8⟩ := Option.ne_none_iff_exists'.1 q8
    have HR := Lib.hid hres
    clear hres hd1 hfr1 hn1
    go_wp2
    go_end0
    exact ⟨rfl, HR.out⟩
set_option maxHeartbeats 2000000 in
theorem dfail_ok (h : DAt (L0 d) W base N g vs vw r d) (after : Int) (ha : i64 after) :
    Calls Try.prog 54 #[.pointer (some ⟨g, 0, none⟩), .int .i64 after] W fun e w' => e = .returned (.tuple #[]) ∧ DTo (L0 (failD d after)) base N g vs vw r (failD d after) W w' := by
  have H0 := Lib.hid h
  obtain ⟨vf0, lf, cl, hb, hq, h3, h4⟩ := h.ex
  have HIs := Lib.hid (is_ok (cell_block hb 0))
  obtain ⟨⟨_, _, _, _, c4⟩, ⟨_, _, _, c8, c9⟩⟩ := db_cells hb
  have fz := free_block hb
  obtain ⟨o, ho⟩ : ∃ o, d.off = o := ⟨_, rfl⟩
  rw [ho] at c4
  have hfd : failD d after = if o = true then d else { d with fail := max after 0 } := by unfold failD; rw [ho]
  rw [hfd]
  cases o with
  | true =>
    rw [if_pos rfl]
    clear hb hq h3 h4 hfd h
    go_enter Try.func54, Try.ntmps54
    go_wp2_with fail
    (with_reducible refine HIs.out.mono ?_); rintro e w1 ⟨rfl, rfl⟩
    go_wp2
    go_end0
    exact ⟨rfl, DTo.refl H0.out (Below.refl _ _)⟩
  | false =>
    rw [if_neg (by decide)]
    have hbs := blk_set (blk_set hb 8 (.bool true)) 9 (.int .i64 (max after 0))
    have hf3 := ((Fr.refl (fun k => k = g) W).set (p := ⟨g, 8, none⟩) (fun _ => rfl) (.bool true)).set (p := ⟨g, 9, none⟩) (fun _ => rfl) (.int .i64 (max after 0))
    have ha2 := ha
    unfold i64 at ha2
    have hok : Ok { d with fail := max after 0 } := ⟨H0.out.ok.sec, H0.out.ok.wt, H0.out.ok.odd, H0.out.ok.many, by show -1 ≤ max after 0 ∧ max after 0 ≤ _; omega, H0.out.ok.cut⟩
    have hpos : decide (0 ≤ max after 0) = true := decide_eq_true (by omega)
    have HR : Hid (DTo (L0 { d with fail := max after 0 }) base N g vs vw r { d with fail := max after 0 } W _) := Lib.hid (DTo.of_g (L := L0 { d with fail := max after 0 }) (d' := { d with fail := max after 0 }) (lf' := lf) (cl' := max after 0) H0.out.gb hb hq hf3 (by
      show DB _ g vs vw r d.off (decide (0 < d.cut)) _ _ (decide (0 ≤ max after 0)) _
      rw [hpos]
      simpa using hbs) rfl rfl (fun _ => rfl) rfl hok h3 ⟨fun _ => rfl, by unfold i64; omega⟩)
    have hmx : (if after < 0 then (0 : Int) else after) = max after 0 := by split <;> omega
    clear hb hq h3 h4 hfd h hbs hf3 hok hpos ha
    generalize max after 0 = m at *
    go_enter Try.func54, Try.ntmps54
    go_wp2_with fail
    (with_reducible refine HIs.out.mono ?_); rintro e w1 ⟨rfl, rfl⟩
    go_wp2
    go_end0
    exact ⟨rfl, HR.out⟩
end
end Go.Proofs.Ythpnlgdcijmocaa.Dk
