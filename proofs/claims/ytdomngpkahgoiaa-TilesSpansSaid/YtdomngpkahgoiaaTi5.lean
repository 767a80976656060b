/- The walk over tiles.split. -/
import Derived.Test.YtdomngpkahgoiaaTi4
import Derived.Test.YtdomngpkahgoiaaTk
namespace Go.Proofs.Ytdomngpkahgoiaa.Ti
open Go.RowKit Rg St Zw
set_option linter.unusedVariables false
set_option linter.unusedSimpArgs false
theorem kid_fine {c : CeS} (h : c.good) (q : Nat) : (c.kid q).fine := by
  by_cases hl : lv c.l = 32
  · have : c.kid q = c.fix := by unfold CeS.kid; rw [if_pos hl]
    rw [this, h.2]; exact h.1
  · exact (kid_good h hl q).1.1
theorem split_snoc (p : CeS → Bool) (c : CeS) (k : Nat) : ((List.range (k + 1)).map (CeS.kid c)).filter p = ((List.range k).map (CeS.kid c)).filter p ++ if p (c.kid k) then [c.kid k] else [] := by
  rw [List.range_succ, List.map_append, List.filter_append]
  congr 1
  cases hp : p (c.kid k) <;> simp [hp]
theorem blk_low {w w1 : World} {base n size : Nat} {e : TypeId} {v : Value} {xs : List Value} {g : Nat} {o : Obj} (h : w.heap[g]? = some o) (h2 : w.ownsRow base e size v n xs) (hg : w.grownBy w1 v.ownBlock) (hlt : g < base) : w1.heap[g]? = some o :=
  (hg.block g (Array.getElem?_eq_some_iff.1 h).1 (fun q => by have := own_base h2 g q.symm; omega)).trans h
theorem ccell {W : World} {g : Nat} {c : CeS} (h : W.heap[g]? = some (.cells #[.int .u32 (c.x : Nat), .int .u32 (c.y : Nat), .int .i64 c.l] 32 (0, 0))) :
    W.cell? ⟨g, 0, none⟩ = some (.int .u32 (c.x : Nat)) ∧ W.cell? ⟨g, 1, none⟩ = some (.int .u32 (c.y : Nat)) ∧ W.cell? ⟨g, 2, none⟩ = some (.int .i64 c.l) := by
  refine ⟨?_, ?_, ?_⟩ <;> (rw [cell_block h]; rfl)
set_option maxHeartbeats 4000000 in
set_option maxRecDepth 100000 in
theorem split_ok (c : CeS) (r : RcS) (w : World) (hc : c.good) :
    Calls Try.prog 42 #[cev c, rcv r] w fun e w' => ∃ v', e = .returned v' ∧ w'.ownsRow w.heap.size 32 3 v' (split c r).length ((split c r).flatMap CeS.cells) ∧ Below w.heap.size w w' := by
  have HHs := Lib.hid (fun p W => meets_ok p r W)
  have HRc := Lib.hid (fun q W => rectc_ok (c.kid q) W (kid_fine hc q))
  have HKd := Lib.hid (fun q (hq : q < 4) W => kid_ok c q hq W hc.1)
  have s1 := fun (W : World) (o : Obj) => (show (W.alloc o).heap.size = W.heap.size + 1 by unfold World.alloc; simp)
  have hq0 := alloc_at (w := w) (.cells #[.int .u32 (c.x : Nat), .int .u32 (c.y : Nat), .int .i64 c.l] 32) rfl
  have hb0 := below_alloc1 w (.cells #[.int .u32 (c.x : Nat), .int .u32 (c.y : Nat), .int .i64 c.l] 32)
  have hz0 := s1 w (.cells #[.int .u32 (c.x : Nat), .int .u32 (c.y : Nat), .int .i64 c.l] 32)
  have hq1 := alloc_at (w := w.alloc (.cells #[.int .u32 (c.x : Nat), .int .u32 (c.y : Nat), .int .i64 c.l] 32)) (.cells #[.int .u32 (r.x0 : Nat), .int .u32 (r.y0 : Nat), .int .u32 (r.x1 : Nat), .int .u32 (r.y1 : Nat)] 24) hz0.symm
  have hq2 := alloc_old hq0 (.cells #[.int .u32 (r.x0 : Nat), .int .u32 (r.y0 : Nat), .int .u32 (r.x1 : Nat), .int .u32 (r.y1 : Nat)] 24)
  have hb1 := below_alloc hb0 (.cells #[.int .u32 (r.x0 : Nat), .int .u32 (r.y0 : Nat), .int .u32 (r.x1 : Nat), .int .u32 (r.y1 : Nat)] 24)
  have H0 := Lib.hid (And.intro hq2 (And.intro hq1 hb1))
  clear hq0 hb0 hz0 hq1 hq2 hb1 s1
  unfold split
  obtain ⟨pf, hpf⟩ : ∃ pf : CeS → Bool, (fun k : CeS => k.rect.meets r) = pf := ⟨_, rfl⟩
  have HPf : Hid (∀ p : CeS, p.rect.meets r = pf p) := Lib.hid (fun p => by rw [← hpf])
  rw [hpf]
  clear hpf hc
  go_enter Try.func42, Try.ntmps42
  go_wp2_with fail
  go_loopw [5, 8] (fun vo vi W => ∃ (k : Nat) (O : List CeS), k ≤ 4 ∧ vi = .int .i64 k ∧ ((List.range k).map (CeS.kid c)).filter pf = O ∧ W.ownsRow (w.heap.size + 2) 32 3 vo O.length (O.flatMap CeS.cells) ∧ W.heap[w.heap.size]? = some (.cells #[.int .u32 (c.x : Nat), .int .u32 (c.y : Nat), .int .i64 c.l] 32 (0, 0)) ∧ W.heap[w.heap.size + 1]? = some (.cells #[.int .u32 (r.x0 : Nat), .int .u32 (r.y0 : Nat), .int .u32 (r.x1 : Nat), .int .u32 (r.y1 : Nat)] 24 (0, 0)) ∧ Below w.heap.size w W) (fun _ vi _ => 4 - (intOf vi).toNat)
  case atStart => exact ⟨0, [], by omega, rfl, by simp, ⟨rfl, .inl ⟨rfl, rfl⟩⟩, H0.out⟩
  case round =>
  obtain ⟨k, O, hk, rfl, hO, ho, hq, hr, hb⟩ := hrel
  have hOl : O.length ≤ k := by rw [← hO]; exact Nat.le_trans (List.length_filter_le _ _) (by simp)
  obtain ⟨Ao, co, rfl, _, _, _, _⟩ := own_rd ho
  have HO := Lib.hid hO
  have Ho := Lib.hid ho
  have HQ := Lib.hid (And.intro hq hr)
  have HB := Lib.hid hb
  have c0 := ccell hq
  have r0 := rcell hr
  have hsz : w.heap.size + 2 ≤ wr.heap.size := (Array.getElem?_eq_some_iff.1 hr).1
  have HSz := Lib.hid hsz
  clear hO ho hq hr hb hsz
  by_cases hlt : k < 4
  · have d : decide ((k : Int) < 4) = true := decide_eq_true (by omega)
    have dn : decide (k < 4) = true := decide_eq_true hlt
    have hs := split_snoc pf c k
    rw [HO.out] at hs
    have HK := Lib.hid (fun W => HKd.out k hlt W)
    have HR := Lib.hid (fun W => HRc.out k W)
    have HP := HPf.out (c.kid k)
    have HHx := Lib.hid (fun W => HHs.out (c.kid k).rect W)
    rw [HP] at HHx
    clear HP
    generalize (c.kid k) = x at *
    generalize x.rect = xr at *
    have HS := Lib.hid hs
    clear hs
    go_wp2_with fail
    (with_reducible refine (HK.out _).mono ?_); rintro e w2 ⟨rfl, hb2⟩
    have hba := below_up hb2 (below_alloc1 w2 (.cells #[.int .u32 (x.x : Nat), .int .u32 (x.y : Nat), .int .i64 x.l] 32))
    have HX0 := Lib.hid (alloc_at (w := w2) (.cells #[.int .u32 (x.x : Nat), .int .u32 (x.y : Nat), .int .i64 x.l] 32) rfl)
    have HB2 := Lib.hid (below_up HB.out hba)
    have HR2 := Lib.hid (And.intro (block_up HQ.out.1 hba) (block_up HQ.out.2 hba))
    have Ho1 := Lib.hid (own_below Ho.out hba)
    have HSz2 := Lib.hid (Nat.le_trans HSz.out hba.size)
    clear c0 r0 hba hb2
    go_upto_region 6 with (fail)
    generalize (World.alloc w2 _) = W1 at *
    generalize w2.heap.size = g2 at *
    go_cut [17] (fun v17 wx => v17 = .bool (pf x) ∧ Below W1.heap.size W1 wx)
    case first =>
      have hd := below_drew1 (w := W1)
      have HD := Lib.hid hd
      have f0 := ccell (block_up HX0.out hd)
      have q0 := rcell (block_up HR2.out.2 hd)
      refine beginS (S := fun W => (W.cell? ⟨g2, 0, none⟩ = some (.int .u32 (x.x : Nat)) ∧ W.cell? ⟨g2, 1, none⟩ = some (.int .u32 (x.y : Nat)) ∧ W.cell? ⟨g2, 2, none⟩ = some (.int .i64 x.l)) ∧ (W.cell? ⟨w.heap.size + 1, 0, none⟩ = some (.int .u32 (r.x0 : Nat)) ∧ W.cell? ⟨w.heap.size + 1, 1, none⟩ = some (.int .u32 (r.y0 : Nat)) ∧ W.cell? ⟨w.heap.size + 1, 2, none⟩ = some (.int .u32 (r.x1 : Nat)) ∧ W.cell? ⟨w.heap.size + 1, 3, none⟩ = some (.int .u32 (r.y1 : Nat)))) [] (by kernel_rfl) ⟨f0, q0⟩ (fun hHeld0 => ?_)
      generalize (World.drew W1) = W0 at *
      clear f0 hd q0
      refine takeH (i := 0) (v := ?_) rfl (by kernel_rfl) (fun _ _ _ h => h) (Or.inl ⟨by kernel_rfl, ?_⟩) (by assumption) ?_; rotate_left; (focus (intro w hSw; (try dsimp only at hSw); go_simp; (try with_reducible rfl); done)); (try simp only [Act.put, List.getElem_toArray, List.getElem_cons_succ, List.getElem_cons_zero, List.setIfInBounds_toArray, List.set_cons_zero, List.set_cons_succ])
      refine takeH (i := 2) (v := ?_) rfl (by kernel_rfl) (fun _ _ _ h => h) (Or.inl ⟨by kernel_rfl, ?_⟩) (by assumption) ?_; rotate_left; (focus (intro w hSw; (try dsimp only at hSw); go_simp; (try with_reducible rfl); done)); (try simp only [Act.put, List.getElem_toArray, List.getElem_cons_succ, List.getElem_cons_zero, List.setIfInBounds_toArray, List.set_cons_zero, List.set_cons_succ])
      clear hHeld0
      refine readyS (rs := [1]) (by kernel_rfl) (by simp) ?_
      refine ReadyS.consH rfl (fun K hK => ?_) ReadyS.nil
      (try simp only [List.getElem_toArray, List.getElem_cons_succ, List.getElem_cons_zero])
      go_simp
      (with_reducible refine (HR.out _).mono ?_); rintro e W2 ⟨rfl, hb1⟩
      have HD1 := Lib.hid (below_up HD.out hb1); clear hb1
      refine hK.out _ _ (⟨ccell (block_up HX0.out HD1.out), rcell (block_up HR2.out.2 HD1.out)⟩) (fun hHeld => ?_)
      clear hK K
      (try simp only [Act.put, List.getElem_toArray, List.getElem_cons_succ, List.getElem_cons_zero, List.setIfInBounds_toArray, List.set_cons_zero, List.set_cons_succ])
      clear hHeld
      refine readyS (rs := [3]) (by kernel_rfl) (by simp) ?_
      refine ReadyS.consH rfl (fun K hK => ?_) ReadyS.nil
      (try simp only [List.getElem_toArray, List.getElem_cons_succ, List.getElem_cons_zero])
      go_simp
      (with_reducible refine (HHx.out _).mono ?_); rintro e W3 ⟨rfl, hb1⟩
      have HD2 := Lib.hid (below_up HD1.out hb1); clear hb1
      refine hK.out _ _ (⟨ccell (block_up HX0.out HD2.out), rcell (block_up HR2.out.2 HD2.out)⟩) (fun hHeld => ?_)
      clear hK K
      (try simp only [Act.put, List.getElem_toArray, List.getElem_cons_succ, List.getElem_cons_zero, List.setIfInBounds_toArray, List.set_cons_zero, List.set_cons_succ])
      refine doneS (by kernel_rfl) ?_ _
      go_wp2
      go_meet
      case rel => exact ⟨rfl, HD2.out⟩
    case rest =>
    obtain ⟨rfl, hbc⟩ := hcut
    have Ho2 := Lib.hid (own_below Ho1.out hbc)
    have HQ2 := Lib.hid (And.intro (block_up HR2.out.1 hbc) (block_up HR2.out.2 hbc))
    have HB3 := Lib.hid (below_up HB2.out hbc)
    have f0 := ccell (block_up HX0.out hbc)
    have HSz3 := Lib.hid (Nat.le_trans HSz2.out hbc.size)
    clear hbc
    cases hpx : pf x with
    | true =>
      rw [hpx, if_pos rfl] at HS
      have Hrd := Lib.hid (rd_new wc #[.int .u32 (x.x : Nat), .int .u32 (x.y : Nat), .int .i64 x.l] 32 ([x].flatMap CeS.cells) rfl)
      have hba := below_alloc1 wc (.cells #[.int .u32 (x.x : Nat), .int .u32 (x.y : Nat), .int .i64 x.l] 32)
      have Ho3 := Lib.hid (own_below Ho2.out hba)
      have HQ3 := Lib.hid (And.intro (block_up HQ2.out.1 hba) (block_up HQ2.out.2 hba))
      have HB4 := Lib.hid (below_up HB3.out hba)
      have HSz4 := Lib.hid (Nat.le_trans HSz3.out hba.size)
      clear hpx hba
      go_wp2_with (at_builtin; refine wpList_app rfl _ _ 27 rfl (w.heap.size + 2) 32 (.agg #[.int .u32 0, .int .u32 0, .int .i64 0]) 3 16 Try.underlying27 info_ce rfl (by decide) (by decide) (.slice Ao O.length co) O.length (O.flatMap CeS.cells) rfl (some ⟨wc.heap.size, 0, none⟩) 1 1 ([x].flatMap CeS.cells) rfl Ho3.out rfl Hrd.out (flat_one CeS.cells_one _) (by omega) HSz4.out ?_)
      intro A1 c1 w1 hown hgrow hat
      have Ho4 : Hid (w1.ownsRow (w.heap.size + 2) 32 3 (.slice A1 (O.length + 1) c1) (O ++ [x]).length ((O ++ [x]).flatMap CeS.cells)) := Lib.hid (by rw [List.length_append, List.length_singleton, List.flatMap_append]; exact hown)
      have HQ4 := Lib.hid (And.intro (blk_low HQ3.out.1 Ho3.out hgrow (by omega)) (blk_low HQ3.out.2 Ho3.out hgrow (by omega)))
      have HB5 := Lib.hid (below_grown HB4.out hgrow (fun k e => by have := own_base Ho3.out k e; omega))
      clear hown hgrow hat
      go_wp2
      exact ⟨⟨k + 1, O ++ [x], by omega, by go_num, HS.out, Ho4.out, HQ4.out.1, HQ4.out.2, HB5.out⟩, by simp [intOf]; omega⟩
    | false =>
      rw [hpx, if_neg (by decide), List.append_nil] at HS
      clear hpx
      go_wp2
      exact ⟨⟨k + 1, O, by omega, by go_num, HS.out, Ho2.out, HQ2.out.1, HQ2.out.2, HB3.out⟩, by simp [intOf]; omega⟩
  · have hkl : k = 4 := by omega
    subst hkl
    have HE := Lib.hid HO.out
    go_wp2
    go_ret
    exact ⟨_, rfl, by rw [HE.out]; exact own_lower Ho.out (by omega), HB.out⟩
end Go.Proofs.Ytdomngpkahgoiaa.Ti
