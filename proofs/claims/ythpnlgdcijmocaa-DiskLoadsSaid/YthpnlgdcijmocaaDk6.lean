/- The walk over disk's Write. -/
import Derived.Test.YthpnlgdcijmocaaDk5
namespace Go.Proofs.Ythpnlgdcijmocaa.Dk
open Go.RowKit Rg Mp
set_option linter.unusedVariables false
set_option linter.unusedSimpArgs false
theorem info_wt : (Try.prog.info? 139).map (fun i => (i.zero, i.size, i.bytes)) = some (some (.agg #[.int .i64 0, .slice none 0 0]), 2, 32) := by kernel_rfl
theorem wc_one (x : Nat × Value) (h : x.2.oneCell' = true) : ∀ u ∈ wc x, u.oneCell' = true := by
  intro u hu
  simp only [wc, List.mem_cons, List.not_mem_nil, or_false] at hu
  rcases hu with rfl | rfl
  · rfl
  · exact h
theorem L0_congr {d d' : DkS} (h : d'.cut = d.cut) : L0 d' = L0 d := by unfold L0; rw [h]
section
variable {L : Int → Prop} {W W' : World} {base N g r : Nat} {vs vw vf : Value} {d d' : DkS} {sure : List Oc} {waits : List Wt} {F : Int → Option Value} {fates : List Int}
theorem DAt.hasbase (h : DAt L W base N g vs vw r d) : base ≤ W.heap.size := by
  have := h.gb
  obtain ⟨_, _, _, hb, _⟩ := h.ex
  have := (Array.getElem?_eq_some_iff.1 hb).1
  omega
theorem DO_base (h : DAt L W base N g vs vw r d) : ∀ k, DO g vs vw r k → base ≤ k := by
  intro k hk
  obtain ⟨vf, lf, cl, hb, hq, _⟩ := h.ex
  rcases hk with e | e | e | e
  · subst e; exact h.gb
  · obtain ⟨sv, a1, _⟩ := hq.s
    exact own_base a1 k e
  · obtain ⟨wv, a1, _⟩ := hq.w
    exact own_base a1 k e
  · subst e; exact hq.rb
theorem DO_ty (h : DAt L W base N g vs vw r d) {t : TypeId} (h1 : 115 ≠ t) (h2 : 78 ≠ t) (h3 : 139 ≠ t) : ∀ k, DO g vs vw r k → ∀ cs, W.heap[k]? ≠ some (.cells cs t (0, 0)) := by
  intro k hk cs
  obtain ⟨vf, lf, cl, hb, hq, _⟩ := h.ex
  rcases hk with e | e | e | e
  · subst e; exact cells_ne hb h1
  · obtain ⟨sv, a1, _⟩ := hq.s
    obtain ⟨c, hc⟩ := own_typed a1 k e
    exact cells_ne hc h2
  · obtain ⟨wv, a1, _⟩ := hq.w
    obtain ⟨c, hc⟩ := own_typed a1 k e
    exact cells_ne hc h3
  · subst e; exact map_ne hq.m
/-- Octets of one's own stand, whatever the disk's calls turn. -/
theorem stay_s (h : DAt L W base N g vs vw r d) {B : Nat} {v : Value} {b : Oc} (hs : SOwn W B v b) (W' : World) (hf : Fr (DO g vs vw r) W W') : BRd W' v b := brd_own (own_ty hs hf (DO_ty h (by decide) (by decide) (by decide)))
theorem DTo.bel (h : DAt L W base N g vs vw r d) {L' : Int → Prop} {N' : Nat} (ht : DTo L' base N' g vs vw r d' W W') : Below base W W' := by
  obtain ⟨vw', h1, h2, h3⟩ := ht
  exact h2.toBelow (DO_base h) h.hasbase
theorem DO_bel (h : DAt L W base N g vs vw r d) (hf : Fr (DO g vs vw r) W W') : Below base W W' := hf.toBelow (DO_base h) h.hasbase
/-- One more waits: the row has grown. -/
theorem DQ.more (h : DQ W base N vs vw r vf sure waits F fates) {wv : List (Nat × Value)} {n : Nat} (hl : wv.length = waits.length) (hel : ∀ i (h : i < wv.length) (h' : i < waits.length), wv[i].1 = waits[i].1 ∧ SOwn W base wv[i].2 waits[i].2) {at_ : Nat} {v : Value} {b : Oc} (hv : SOwn W base v b)
    (hrow : W.ownsRow base 139 2 vw n (wv.flatMap wc)) {vw' : Value} (hown : W'.ownsRow base 139 2 vw' (n + 1) (wv.flatMap wc ++ wc (at_, v))) (hg : W.grownBy W' vw.ownBlock) : DQ W' base N vs vw' r vf sure (waits ++ [(at_, b)]) F fates := by
  have hf : Fr (fun k => vw.ownBlock = some k) W W' := (Fr.refl _ W).grown hg (fun k e _ => e)
  have hty : ∀ k, vw.ownBlock = some k → ∃ cs, W.heap[k]? = some (.cells cs 139 (0, 0)) := fun k e => own_typed hrow k e
  have hn : n = wv.length := by have := hrow.1; rw [flat_len wc_len] at this; omega
  subst hn
  have ht : ∀ {t : TypeId}, 139 ≠ t → ∀ k, vw.ownBlock = some k → ∀ cs, W.heap[k]? ≠ some (.cells cs t (0, 0)) := fun hne k e cs => by
    obtain ⟨c, hc⟩ := hty k e
    exact cells_ne hc hne
  refine ⟨h.s.fr hf (ht (by decide)) (ht (by decide)), ⟨wv ++ [(at_, v)], ?_, by simp [hl], fun i a a' => ?_⟩, h.m.fr hf (fun e => ?_), h.rb, h.f.fr hf (ht (by decide))⟩
  · rw [List.length_append, List.flatMap_append]
    simpa using hown
  · by_cases hi : i < wv.length
    · rw [List.getElem_append_left hi, List.getElem_append_left (by omega)]
      have := hel i hi (by omega)
      exact ⟨this.1, own_ty this.2 hf (ht (by decide))⟩
    · have hi2 : i = wv.length := by simp at a; omega
      subst hi2
      have e1 : (wv ++ [(at_, v)])[wv.length]'a = (at_, v) := by simp
      have e2 : (waits ++ [(at_, b)])[wv.length]'a' = (at_, b) := by simp [hl]
      rw [e1, e2]
      exact ⟨rfl, own_ty hv hf (ht (by decide))⟩
  · obtain ⟨c, hc⟩ := hty _ e
    obtain ⟨es, c', hb⟩ := h.m.blk
    rw [hc] at hb
    cases hb
def wrE (d : DkS) (at_ : Int) (b : Oc) : Nat := if brkB d = true then 20 else if at_ < 0 ∨ (d.sure.length : Int) ≤ at_ then 4 else if b.length ≠ 256 then 5 else 0
def wrD (d : DkS) (at_ : Int) (b : Oc) : DkS := if brkB d = true then brk d else if at_ < 0 ∨ (d.sure.length : Int) ≤ at_ then brk d else if b.length ≠ 256 then brk d else write (brk d) at_.toNat b
theorem wrD_ok (h : Ok d) (at_ : Int) (b : Oc) : Ok (wrD d at_ b) := by
  unfold wrD
  split
  · exact brk_ok h
  · split
    · exact brk_ok h
    · split
      · exact brk_ok h
      · rename_i h1 h2 h3
        have hs := (brk_same d).1
        exact write_ok (brk_ok h) (by rw [hs]; omega) (by omega)
set_option maxHeartbeats 4000000 in
set_option maxRecDepth 100000 in
theorem dwrite_ok (h : DAt (L0 d) W base N g vs vw r d) (hN : N + d.waits.length + 1 ≤ 1099511627776) (hfl : d.fates.length ≤ 4611686018427387904) (hfi : ∀ x ∈ d.fates, i64 x) (at_ : Int) (hat : i64 at_) {vb : Value} {b : Oc} (hb : ∀ W', Fr (DO g vs vw r) W W' → BRd W' vb b) (hbl : b.length ≤ 140737488355328) :
    Calls Try.prog 37 #[.pointer (some ⟨g, 0, none⟩), .int .i64 at_, vb] W fun e w' => e = .returned (.int .i64 (wrE d at_ b : Nat)) ∧ DTo (L0 (wrD d at_ b)) base (N + d.waits.length + 1) g vs vw r (wrD d at_ b) W w' := by
  have H0 := Lib.hid h
  have HB := Lib.hid hb
  obtain ⟨Ab, cb, rfl, _, _⟩ := hb W (Fr.refl _ _)
  have hi := h.ex
  obtain ⟨_, _, _, hblk, _⟩ := hi
  have HIs := Lib.hid (is_ok (cell_block hblk 0))
  have HBr := Lib.hid (broken_ok h)
  have hsm := brk_same d
  obtain ⟨E, hE⟩ : ∃ n, wrE d at_ b = n := ⟨_, rfl⟩
  obtain ⟨D, hD⟩ : ∃ n, wrD d at_ b = n := ⟨_, rfl⟩
  rw [hE, hD]
  have HE := Lib.hid hE
  have HDD := Lib.hid hD
  obtain ⟨B, hB⟩ : ∃ x, brkB d = x := ⟨_, rfl⟩
  have HBB := Lib.hid hB
  rw [hB] at HBr
  have hL := L0_congr (d := d) (d' := brk d) hsm.2.2.2.2.1
  have HL := Lib.hid hL
  have HSm := Lib.hid hsm
  have HN := Lib.hid (And.intro hN (And.intro hfl hfi))
  have hat2 := hat
  unfold i64 at hat2
  clear h hb hblk hE hD hB hL hsm hN hfl hfi hat
  go_enter Try.func37, Try.ntmps37
  go_wp2_with fail
  (with_reducible refine HIs.out.mono ?_); rintro e w1 ⟨rfl, rfl⟩
  go_wp2_with fail
  (with_reducible refine HBr.out.mono ?_); rintro e W1 ⟨rfl, vw1, hd1, hf1, hn1⟩
  rw [← HL.out] at hd1
  have H1 := Lib.hid (And.intro hd1 (And.intro hf1 hn1))
  clear hd1 hf1 hn1
  cases B with
  | true =>
    obtain rfl : E = 20 := by rw [← HE.out]; unfold wrE; rw [if_pos HBB.out]
    obtain rfl : D = brk d := by rw [← HDD.out]; unfold wrD; rw [if_pos HBB.out]
    go_wp2
    go_ret
    exact ⟨rfl, (show DTo (L0 (brk d)) base N g vs vw r (brk d) W W1 from ⟨vw1, H1.out⟩).mono (by omega)⟩
  | false =>
    have hE2 : E = if at_ < 0 ∨ (d.sure.length : Int) ≤ at_ then 4 else if b.length ≠ 256 then 5 else 0 := by rw [← HE.out]; unfold wrE; rw [if_neg (by rw [HBB.out]; decide)]
    have hD2 : D = if at_ < 0 ∨ (d.sure.length : Int) ≤ at_ then brk d else if b.length ≠ 256 then brk d else write (brk d) at_.toNat b := by rw [← HDD.out]; unfold wrD; rw [if_neg (by rw [HBB.out]; decide)]
    obtain ⟨cw, cs, fz⟩ := H1.out.1.cell
    obtain ⟨As, ccs, e, _⟩ := H1.out.1.s.slice
    rw [HSm.out.1] at e
    subst e
    have HED := Lib.hid (And.intro hE2 hD2)
    clear hE2 hD2
    by_cases c1 : at_ < 0
    · have k1 : decide (at_ < 0) = true := decide_eq_true c1
      obtain rfl : E = 4 := by rw [HED.out.1, if_pos (.inl c1)]
      obtain rfl : D = brk d := by rw [HED.out.2, if_pos (.inl c1)]
      go_wp2
      go_ret
      exact ⟨rfl, (show DTo (L0 (brk d)) base N g _ vw r (brk d) W W1 from ⟨vw1, H1.out⟩).mono (by omega)⟩
    · have k1 : decide (at_ < 0) = false := decide_eq_false c1
      by_cases c2 : (d.sure.length : Int) ≤ at_
      · have k2 : decide ((d.sure.length : Int) ≤ at_) = true := decide_eq_true c2
        obtain rfl : E = 4 := by rw [HED.out.1, if_pos (.inr c2)]
        obtain rfl : D = brk d := by rw [HED.out.2, if_pos (.inr c2)]
        go_wp2
        go_ret
        exact ⟨rfl, (show DTo (L0 (brk d)) base N g _ vw r (brk d) W W1 from ⟨vw1, H1.out⟩).mono (by omega)⟩
      · have k2 : decide ((d.sure.length : Int) ≤ at_) = false := decide_eq_false c2
        obtain ⟨a, rfl⟩ := Int.eq_ofNat_of_zero_le (by omega : 0 ≤ at_)
        by_cases c3 : b.length = 256
        · have k3 : ((b.length : Int) != 256) = false := by simp [c3]
          have k4 : ((b.length : Int) == 256) = true := by simp [c3]
          obtain rfl : E = 0 := by rw [HED.out.1, if_neg (by omega), if_neg (by omega)]
          have hDw : D = write (brk d) a b := by rw [HED.out.2, if_neg (by omega), if_neg (by omega)]; rfl
          have HDw := Lib.hid hDw
          clear hDw
          have HB2 : Hid (∀ W', Fr (DO g (.slice As d.sure.length ccs) vw r) W W' → BRd W' (.slice Ab 256 cb) b) := Lib.hid (by rw [← c3]; exact HB.out)
          have ha : a < d.sure.length := by omega
          have HC3 := Lib.hid (And.intro c3 ha)
          have hbel1 := DTo.bel H0.out (show DTo (L0 (brk d)) base N g (.slice As d.sure.length ccs) vw r (brk d) W W1 from ⟨vw1, H1.out⟩)
          have hw1 := H1.out.1.w
          obtain ⟨wv, hrow, hwl, hwe⟩ := hw1
          obtain ⟨Aw, cw', e, _, _, _, hA⟩ := own_rd hrow
          subst e
          have HWt := Lib.hid (And.intro hrow (And.intro hwl hwe))
          have hwn : wv.length ≤ 1099511627776 := by have := HN.out.1; rw [hwl, HSm.out.2.1]; omega
          have hd0 := below_drew1 (w := W1)
          have HD := Lib.hid hd0
          have HBe := Lib.hid (H1.out.2.1.below hd0)
          have cw2 := cell_up cw hd0
          go_upto_region 9 with (fail)
          clear hrow hwl hwe hbel1 hA ha c1 c2 c3 cs
          refine beginS (S := fun W' => W'.cell? ⟨g, 2, none⟩ = some (.slice Aw wv.length cw')) [13] (by kernel_rfl) cw2 (fun hHeld0 => ?_)
          generalize (World.drew W1) = W2 at *
          clear cw2 hd0
          refine takeF (i := 0) (v := ?_) rfl (by kernel_rfl) (fun _ _ _ h => h) (Or.inl ⟨by kernel_rfl, ?_⟩) (by assumption) ?_; rotate_left; (focus (intro w _; go_simp; (try with_reducible rfl); done)); (try simp only [Act.put, List.getElem_toArray, List.getElem_cons_succ, List.getElem_cons_zero, List.setIfInBounds_toArray, List.set_cons_zero, List.set_cons_succ])
          refine takeF (i := 1) (v := ?_) rfl (by kernel_rfl) (fun _ _ _ h => h) (Or.inl ⟨by kernel_rfl, ?_⟩) (by assumption) ?_; rotate_left; (focus (intro w _; go_simp; (try with_reducible rfl); done)); (try simp only [Act.put, List.getElem_toArray, List.getElem_cons_succ, List.getElem_cons_zero, List.setIfInBounds_toArray, List.set_cons_zero, List.set_cons_succ])
          refine takeF (i := 2) (v := ?_) rfl (by kernel_rfl) (fun _ _ _ h => h) (Or.inl ⟨by kernel_rfl, ?_⟩) (by assumption) ?_; rotate_left; (focus (intro w _; go_simp; (try with_reducible rfl); done)); (try simp only [Act.put, List.getElem_toArray, List.getElem_cons_succ, List.getElem_cons_zero, List.setIfInBounds_toArray, List.set_cons_zero, List.set_cons_succ])
          refine takeF (i := 3) (v := ?_) rfl (by kernel_rfl) (fun _ _ _ h => h) (Or.inl ⟨by kernel_rfl, ?_⟩) (by assumption) ?_; rotate_left; (focus (intro w _; go_simp; (try with_reducible rfl); done)); (try simp only [Act.put, List.getElem_toArray, List.getElem_cons_succ, List.getElem_cons_zero, List.setIfInBounds_toArray, List.set_cons_zero, List.set_cons_succ])
          refine takeH (i := 4) (v := ?_) rfl (by kernel_rfl) (fun _ _ _ h => h) (Or.inl ⟨by kernel_rfl, ?_⟩) (by assumption) ?_; rotate_left; (focus (intro w hSw; (try dsimp only at hSw); go_simp; (try with_reducible rfl); done)); (try simp only [Act.put, List.getElem_toArray, List.getElem_cons_succ, List.getElem_cons_zero, List.setIfInBounds_toArray, List.set_cons_zero, List.set_cons_succ])
          refine takeF (i := 5) (v := ?_) rfl (by kernel_rfl) (fun _ _ _ h => h) (Or.inl ⟨by kernel_rfl, ?_⟩) (by assumption) ?_; rotate_left; (focus (intro w _; go_simp; (try with_reducible rfl); done)); (try simp only [Act.put, List.getElem_toArray, List.getElem_cons_succ, List.getElem_cons_zero, List.setIfInBounds_toArray, List.set_cons_zero, List.set_cons_succ])
          refine takeF (i := 6) (v := ?_) rfl (by kernel_rfl) (fun _ _ _ h => h) (Or.inl ⟨by kernel_rfl, ?_⟩) (by assumption) ?_; rotate_left; (focus (intro w _; go_simp; (try with_reducible rfl); done)); (try simp only [Act.put, List.getElem_toArray, List.getElem_cons_succ, List.getElem_cons_zero, List.setIfInBounds_toArray, List.set_cons_zero, List.set_cons_succ])
          clear hHeld0
          have HCl := Lib.hid (bclone_ok _ b W2 (HB2.out _ HBe.out) hbl)
          refine readyS (rs := [7]) (by kernel_rfl) (by simp) ?_
          refine ReadyS.consH rfl (fun K hK => ?_) ReadyS.nil
          (try simp only [List.getElem_toArray, List.getElem_cons_succ, List.getElem_cons_zero])
          go_simp
          (with_reducible refine HCl.out.mono ?_); rintro e W3 ⟨v3, rfl, ho3, hb3⟩
          have HD3 := Lib.hid (below_up HD.out hb3)
          have HO3 := Lib.hid (And.intro ho3 hb3)
          obtain ⟨ga, cc, ev, hcc⟩ := sown_at ho3 (by rw [HC3.out.1]; decide)
          rw [HC3.out.1] at ev hcc
          subst ev
          clear ho3 hb3 HCl
          refine hK.out _ _ (cell_up cw HD3.out) (fun hHeld => ?_)
          clear hK K
          (try simp only [Act.put, List.getElem_toArray, List.getElem_cons_succ, List.getElem_cons_zero, List.setIfInBounds_toArray, List.set_cons_zero, List.set_cons_succ])
          refine takeF (i := 8) (v := ?_) rfl (by kernel_rfl) (fun _ _ _ h => h) (Or.inl ⟨by kernel_rfl, ?_⟩) (by assumption) ?_; rotate_left; (focus (intro w _; go_simp; (try with_reducible rfl); done)); (try simp only [Act.put, List.getElem_toArray, List.getElem_cons_succ, List.getElem_cons_zero, List.setIfInBounds_toArray, List.set_cons_zero, List.set_cons_succ])
          clear hHeld
          refine readyS (rs := [9]) (by kernel_rfl) (by simp) ?_
          refine ReadyS.consH rfl (fun K hK => ?_) ReadyS.nil
          (try simp only [List.getElem_toArray, List.getElem_cons_succ, List.getElem_cons_zero])
          go_simp
          have hba := below_alloc1 W3 (.cells #[.int .i64 (a : Nat), .slice (some ⟨ga, 0, none⟩) 256 cc] 139)
          have HRd := Lib.hid (rd_new W3 #[.int .i64 (a : Nat), .slice (some ⟨ga, 0, none⟩) 256 cc] 139 (wc (a, .slice (some ⟨ga, 0, none⟩) 256 cc)) rfl)
          have HD4 := Lib.hid (below_up HD3.out hba)
          have HS4 := Lib.hid (own_below HO3.out.1 hba)
          clear hba
          refine hK.out _ _ (cell_up cw HD4.out) (fun hHeld => ?_)
          clear hK K
          (try simp only [Act.put, List.getElem_toArray, List.getElem_cons_succ, List.getElem_cons_zero, List.setIfInBounds_toArray, List.set_cons_zero, List.set_cons_succ])
          clear hHeld
          generalize hW4 : (World.alloc W3 _) = W4 at *
          refine readyS (rs := [10]) (by kernel_rfl) (by simp) ?_
          refine ReadyS.consH rfl (fun K hK => ?_) ReadyS.nil
          (try simp only [List.getElem_toArray, List.getElem_cons_succ, List.getElem_cons_zero])
          rw [if_pos (by kernel_rfl)]
          subst hW4
          have hrow4 := own_below HWt.out.1 HD4.out
          refine wp_app _ _ 112 (by rfl) base 139 (.agg #[.int .i64 0, .slice none 0 0]) 2 32 Try.underlying112 info_wt rfl (by decide) (by decide) (.slice Aw wv.length cw') wv.length (wv.flatMap wc) (by rfl) (some ⟨W3.heap.size, 0, none⟩) 1 1 (wc (a, .slice (some ⟨ga, 0, none⟩) 256 cc)) (by rfl) hrow4 rfl HRd.out (wc_one _ rfl) (by omega) (Nat.le_trans H1.out.1.hasbase HD4.out.size) ?_
          intro A1 c1 w9 hown hgrow hat9
          obtain ⟨vf, lf, cl, hb1, hq1, h3, h4⟩ := H1.out.1.ex
          have hb4 := block_up hb1 HD4.out
          have hq4 := hq1.up HD4.out
          have hrow1 := hrow4
          have hfr9 : Fr (fun k => (Value.slice Aw wv.length cw').ownBlock = some k) _ w9 := (Fr.refl _ _).grown hgrow (fun k e _ => e)
          have hng : ¬ (Value.slice Aw wv.length cw').ownBlock = some g := own_ne_block hrow4 hb4 (by decide)
          have hb9 := blk_fr hb4 hfr9 hng
          have hS4 : SOwn _ base (.slice (some ⟨ga, 0, none⟩) 256 cc) b := own_lower HS4.out (Nat.le_trans H1.out.1.hasbase HD.out.size)
          have hq9 := hq4.more HWt.out.2.1 (fun i x y => ⟨(HWt.out.2.2 i x y).1, own_below (HWt.out.2.2 i x y).2 HD4.out⟩) (at_ := a) hS4 hrow4 hown hgrow
          have hfr1 : Fr (DO g (.slice As d.sure.length ccs) (.slice Aw wv.length cw') r) W1 w9 := (Fr.of_below HD4.out).trans hfr9 (fun k _ e => .inr (.inr (.inl e)))
          have hnew : ∀ k, (Value.slice A1 (wv.length + 1) c1).ownBlock = some k → (Value.slice Aw wv.length cw').ownBlock = some k ∨ W1.heap.size ≤ k := fun k hk => by
            rcases hat9 with e | e
            · rw [e] at hk; exact .inl hk
            · rw [e] at hk; cases hk; exact .inr HD4.out.size
          have H9 := Lib.hid (And.intro hb9 (And.intro hq9 (And.intro hfr1 (And.intro hnew (And.intro h3 h4)))))
          have z0 := cell_block hb9 2
          clear hown hgrow hat9 hb1 hq1 h3 h4 hb4 hq4 hrow1 hfr9 hng hb9 hS4 hq9 hfr1 hnew hrow4
          refine hK.out _ _ (z0) (fun hHeld => ?_)
          clear hK K
          (try simp only [Act.put, List.getElem_toArray, List.getElem_cons_succ, List.getElem_cons_zero, List.setIfInBounds_toArray, List.set_cons_zero, List.set_cons_succ])
          refine takeF (i := 11) (v := ?_) rfl (by kernel_rfl) (fun _ _ _ h => h) (Or.inl ⟨by kernel_rfl, ?_⟩) (by assumption) ?_; rotate_left; (focus (intro w _; go_simp; (try with_reducible rfl); done)); (try simp only [Act.put, List.getElem_toArray, List.getElem_cons_succ, List.getElem_cons_zero, List.setIfInBounds_toArray, List.set_cons_zero, List.set_cons_succ])
          refine takeF (i := 12) (v := ?_) rfl (by kernel_rfl) (fun _ _ _ h => h) (Or.inl ⟨by kernel_rfl, ?_⟩) (by assumption) ?_; rotate_left; (focus (intro w _; go_simp; (try with_reducible rfl); done)); (try simp only [Act.put, List.getElem_toArray, List.getElem_cons_succ, List.getElem_cons_zero, List.setIfInBounds_toArray, List.set_cons_zero, List.set_cons_succ])
          clear hHeld
          have fz := free_block H9.out.1 2
          refine readyS (rs := [13]) (by kernel_rfl) (by simp) ?_
          refine ReadyS.consP rfl (by kernel_rfl) (fun K hK => ?_) ReadyS.nil
          (try simp only [List.getElem_toArray, List.getElem_cons_succ, List.getElem_cons_zero])
          go_simp
          have hset := fr_set1 w9 g 2 (.slice A1 (wv.length + 1) c1)
          have hb10 := blk_set H9.out.1 2 (.slice A1 (wv.length + 1) c1)
          have hokd : Ok { brk d with waits := (brk d).waits ++ [(a, b)] } := more_ok H1.out.1.ok (by rw [HSm.out.1]; exact HC3.out.2) HC3.out.1
          have hLd : L0 { brk d with waits := (brk d).waits ++ [(a, b)] } = L0 (brk d) := L0_congr rfl
          have hd10 : DAt (L0 { brk d with waits := (brk d).waits ++ [(a, b)] }) (w9.setCell ⟨g, 2, none⟩ (.slice A1 (wv.length + 1) c1)) base N g (.slice As d.sure.length ccs) (.slice A1 (wv.length + 1) c1) r { brk d with waits := (brk d).waits ++ [(a, b)] } := by
            rw [hLd]
            exact ⟨H1.out.1.gb, hokd, vf, lf, cl, by simpa using hb10, H9.out.2.1.fr_g H9.out.1 hset, H9.out.2.2.2.2.1, H9.out.2.2.2.2.2⟩
          have hwlen : ({ brk d with waits := (brk d).waits ++ [(a, b)] } : DkS).waits.length = d.waits.length + 1 := by show ((brk d).waits ++ [(a, b)]).length = _; rw [List.length_append, HSm.out.2.1]; rfl
          have hfat : ({ brk d with waits := (brk d).waits ++ [(a, b)] } : DkS).fates = d.fates := HSm.out.2.2.2.2.2
          have hDn := ddone_ok hd10 (by rw [hwlen]; have := HN.out.1; omega) (by rw [hfat]; exact HN.out.2.1) (by rw [hfat]; exact HN.out.2.2)
          rw [hwlen] at hDn
          have hfr10 := H9.out.2.2.1.trans hset (fun k _ e => (.inl e : DO g (.slice As d.sure.length ccs) (.slice Aw wv.length cw') r k))
          have HDn := Lib.hid hDn
          have HFr := Lib.hid (And.intro hfr10 H9.out.2.2.2.1)
          clear hDn hfr10 hfat hwlen hd10 hLd hokd hb10 hset z0 fz
          generalize (World.setCell w9 _ _) = w10 at *
          refine hK.out _ _ ?_
          clear hK K
          (try simp only [Act.put, List.getElem_toArray, List.getElem_cons_succ, List.getElem_cons_zero, List.setIfInBounds_toArray, List.set_cons_zero, List.set_cons_succ])
          refine doneS (by kernel_rfl) ?_ _
          go_wp2_with fail
          (with_reducible refine HDn.out.mono ?_); rintro e w11 ⟨rfl, hdt⟩
          have hres := DTo.next H1.out.2.1 H1.out.2.2 (DTo.next HFr.out.1 HFr.out.2 hdt)
          have HRes := Lib.hid hres
          clear hdt hres
          go_wp2
          go_ret
          exact ⟨rfl, by rw [HDw.out]; exact HRes.out⟩
        · have k3 : ((b.length : Int) != 256) = true := by simp; omega
          have k4 : ((b.length : Int) == 256) = false := by simp; omega
          obtain rfl : E = 5 := by rw [HED.out.1, if_neg (by omega), if_pos c3]
          obtain rfl : D = brk d := by rw [HED.out.2, if_neg (by omega), if_pos c3]
          have k5 : decide ((b.length : Int) = 256) = false := decide_eq_false (by omega)
          go_wp2
          go_ret
          exact ⟨rfl, (show DTo (L0 (brk d)) base N g _ vw r (brk d) W W1 from ⟨vw1, H1.out⟩).mono (by omega)⟩
end
end Go.Proofs.Ythpnlgdcijmocaa.Dk
