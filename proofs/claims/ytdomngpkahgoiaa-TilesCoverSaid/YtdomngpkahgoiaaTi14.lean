/- The walk over croftlaw41.TilesStops. -/
import Derived.Test.YtdomngpkahgoiaaTi13
namespace Go.Proofs.Ytdomngpkahgoiaa.Ti
open Go.RowKit Rg St Zw
set_option linter.unusedVariables false
set_option linter.unusedSimpArgs false
/-- How many of the first quarters meet. -/
def qn (c : CeS) (r : RcS) (q : Nat) : Nat := (((List.range q).map (CeS.kid c)).filter fun k => k.rect.meets r).length
theorem qn_zero (c : CeS) (r : RcS) : qn c r 0 = 0 := rfl
theorem qn_four (c : CeS) (r : RcS) : qn c r 4 = (split c r).length := rfl
theorem qn_le (c : CeS) (r : RcS) (q : Nat) : qn c r q ≤ q := Nat.le_trans (List.length_filter_le _ _) (by simp)
theorem qn_succ (c : CeS) (r : RcS) (q : Nat) : qn c r (q + 1) = qn c r q + if (c.kid q).rect.meets r = true then 1 else 0 := by
  unfold qn
  rw [split_snoc, List.length_append]
  split <;> simp
/-- What Cover gives, whatever the window. -/
theorem cover_all {r : RcS} (hr : r.fine) {m : Nat} (hm : 1 ≤ m) {L : List CeS} (h : if r.emp = true then L = [] else Reach r m L ∧ ∀ c ∈ L, cand r m L.length c = false) :
    (∀ c ∈ L, c.good ∧ c.rect.meets r = true) ∧ L.length ≤ m ∧ (∀ c ∈ L, cand r m L.length c = false) ∧ (r.emp = false → ∀ u v, r.In u v → L.countP (fun k => k.has u v) = 1) := by
  cases he : r.emp with
  | true =>
    rw [he, if_pos rfl] at h
    subst h
    exact ⟨by simp, by simp, by simp, by simp⟩
  | false =>
    rw [he, if_neg (by decide)] at h
    have hi := reach_inv hr he hm h.1
    exact ⟨hi.all, hi.le, h.2, fun _ => hi.one⟩
set_option maxHeartbeats 8000000 in
set_option maxRecDepth 100000 in
theorem stops_walk (r : RcS) (most : Int) (w : World) (hr : r.fine) (hm : -9223372036854775808 ≤ most ∧ most ≤ 9223372036854775807) :
    Calls Try.prog 3 #[rcv r, .int .i64 most] w fun e w' => e = .returned (.bool true) ∧ Below w.heap.size w w' := by
  have HAl := Lib.hid (fun W => alive_ok W)
  have HN := Lib.hid (fun W => near_ok most W hm)
  have HC := Lib.hid (fun (m : Nat) (hm : 1 ≤ m ∧ m ≤ 20) W => cover_ok r m W hr (by omega) m (by omega))
  have HAll := Lib.hid (fun (m : Nat) (hm : 1 ≤ m ∧ m ≤ 20) L h => cover_all hr (m := m) hm.1 (L := L) h)
  have HWi := Lib.hid (fun q W => within_ok q r W)
  have HMe := Lib.hid (fun q W => meets_ok q r W)
  have hq := alloc_at (w := w) (.cells #[.int .u32 (r.x0 : Nat), .int .u32 (r.y0 : Nat), .int .u32 (r.x1 : Nat), .int .u32 (r.y1 : Nat)] 24) rfl
  have hb := below_alloc1 w (.cells #[.int .u32 (r.x0 : Nat), .int .u32 (r.y0 : Nat), .int .u32 (r.x1 : Nat), .int .u32 (r.y1 : Nat)] 24)
  have HQ := Lib.hid (And.intro hq hb)
  clear hq hb hr hm
  go_enter Try.func3, Try.ntmps3
  go_wp2_with fail
  generalize (w.alloc _) = w0 at *
  (with_reducible refine (HAl.out _).mono ?_); rintro e w1 ⟨rfl, hb⟩
  have HQ1 := Lib.hid (And.intro (block_up HQ.out.1 hb) (below_up HQ.out.2 hb)); clear hb
  go_wp2_with fail
  (with_reducible refine (HN.out _).mono ?_); rintro e w5 ⟨m, rfl, hk, hw5⟩
  subst hw5
  have hm : 1 ≤ m ∧ m ≤ 20 := by omega
  have HC2 := Lib.hid (fun W => HC.out m hm W)
  have HAll2 := Lib.hid (fun L => HAll.out m hm L)
  clear hk
  have q0 := rcell HQ1.out.1
  go_wp2_with fail
  (with_reducible refine (HC2.out _).mono ?_); rintro e w2 ⟨v2, L, rfl, ho, hif, hb⟩
  obtain ⟨hal, hle, hno, _⟩ := HAll2.out L hif
  have HG := Lib.hid hal
  have HNo := Lib.hid hno
  have HQ2 := Lib.hid (And.intro (block_up HQ1.out.1 hb) (below_up HQ1.out.2 hb))
  have hrow := srd_own CeS.cells_len (by decide) ho
  obtain ⟨A, cap, rfl, _, _, _, _⟩ := own_rd ho
  have HRow := Lib.hid hrow
  clear hb ho hif hal hno q0 hrow HAll HAll2 HC HC2
  have hm1 := hm.1
  have hm2 := hm.2
  clear hm
  go_wp2_with fail
  go_loopw [6] (fun vi W => ∃ k : Nat, k ≤ L.length ∧ vi = .int .i64 k ∧ Below w2.heap.size w2 W) (fun vi _ => L.length - (intOf vi).toNat)
  case atStart => exact ⟨0, by omega, rfl, Below.refl _ _⟩
  case round =>
  obtain ⟨k, hk, rfl, hb⟩ := hrel
  have HB := Lib.hid hb
  clear hb
  obtain ⟨W3, rfl⟩ : ∃ W, W = wr := ⟨_, rfl⟩
  by_cases hlt : k < L.length
  · have d : decide ((k : Int) < L.length) = true := decide_eq_true (by omega)
    have dn : decide (k < L.length) = true := decide_eq_true hlt
    have bk : (k : Int) < L.length := by omega
    obtain ⟨g, o, rfl, f0⟩ := c_at (HRow.out.below HB.out) hlt
    have HAt : Hid (∀ W', Below W3.heap.size W3 W' → AtC W' g o k L[k]) := Lib.hid (fun W' hb => by
      obtain ⟨g1, o1, e, f⟩ := c_at (HRow.out.below (below_up HB.out hb)) hlt
      cases e; exact f)
    have hg := (HG.out _ (List.getElem_mem hlt)).1
    have hc0 := HNo.out _ (List.getElem_mem hlt)
    have HRx := Lib.hid (fun W => rectc_ok L[k] W hg.1)
    have HKi := Lib.hid (fun q hq W => kid_ok L[k] q hq W hg.1)
    have HKr := Lib.hid (fun q W => rectc_ok (L[k].kid q) W (kid_fine hg q))
    have HWx := Lib.hid (fun W => HWi.out L[k].rect W)
    have hcand : cand r m L.length L[k] = (!(L[k].rect.within r || decide (L[k].l = 32)) && decide (L.length - 1 + (split L[k] r).length ≤ m)) := rfl
    rw [hc0] at hcand
    clear hc0 f0 hg
    obtain ⟨x, hx⟩ : ∃ x, L[k] = x := ⟨_, rfl⟩
    rw [hx] at HRx HKi HKr HWx hcand HAt
    clear hx
    obtain ⟨xr, hxr⟩ : ∃ q, x.rect = q := ⟨_, rfl⟩
    rw [hxr] at HRx HWx hcand
    clear hxr
    obtain ⟨wi, hwi⟩ : ∃ b, xr.within r = b := ⟨_, rfl⟩
    rw [hwi] at HWx hcand
    clear hwi
    obtain ⟨D, hD⟩ : ∃ b, (wi || decide (x.l = 32)) = b := ⟨_, rfl⟩
    rw [hD] at hcand
    have HCd := Lib.hid hcand
    clear hcand
    go_upto_region 8 with (fail)
    go_cut [36] from 22 to 36 (fun v36 wx => v36 = .bool D ∧ Below W3.heap.size W3 wx)
    case first =>
      have hd := below_drew1 (w := W3)
      have HD := Lib.hid hd
      have HQ3 := Lib.hid (block_up HQ2.out.1 HB.out)
      have f0 := HAt.out _ hd
      have q0 := rcell (block_up HQ3.out hd)
      refine beginS (S := fun W => (W.cell? ⟨g, o + k * 3, none⟩ = some (.int .u32 (x.x : Nat)) ∧ W.cell? ⟨g, o + k * 3 + 1, none⟩ = some (.int .u32 (x.y : Nat)) ∧ W.cell? ⟨g, o + k * 3 + 2, none⟩ = some (.int .i64 x.l)) ∧ (W.cell? ⟨w.heap.size, 0, none⟩ = some (.int .u32 (r.x0 : Nat)) ∧ W.cell? ⟨w.heap.size, 1, none⟩ = some (.int .u32 (r.y0 : Nat)) ∧ W.cell? ⟨w.heap.size, 2, none⟩ = some (.int .u32 (r.x1 : Nat)) ∧ W.cell? ⟨w.heap.size, 3, none⟩ = some (.int .u32 (r.y1 : Nat)))) [] (by kernel_rfl) ⟨f0, q0⟩ (fun hHeld0 => ?_)
      generalize (World.drew W3) = W0 at *
      clear f0 hd q0
      refine takeF (i := 0) (v := ?_) rfl (by kernel_rfl) (fun _ _ _ h => h) (Or.inl ⟨by kernel_rfl, ?_⟩) (by assumption) ?_; rotate_left; (focus (intro w _; go_simp; (try with_reducible rfl); done)); (try simp only [Act.put, List.getElem_toArray, List.getElem_cons_succ, List.getElem_cons_zero, List.setIfInBounds_toArray, List.set_cons_zero, List.set_cons_succ])
      refine takeF (i := 1) (v := ?_) rfl (by kernel_rfl) (fun _ _ _ h => h) (Or.inl ⟨by kernel_rfl, ?_⟩) (by assumption) ?_; rotate_left; (focus (intro w _; go_simp; (try with_reducible rfl); done)); (try simp only [Act.put, List.getElem_toArray, List.getElem_cons_succ, List.getElem_cons_zero, List.setIfInBounds_toArray, List.set_cons_zero, List.set_cons_succ])
      refine takeF (i := 2) (v := ?_) rfl (by kernel_rfl) (fun _ _ _ h => h) (Or.inl ⟨by kernel_rfl, ?_⟩) (by assumption) ?_; rotate_left; (focus (intro w _; go_simp; (try with_reducible rfl); done)); (try simp only [Act.put, List.getElem_toArray, List.getElem_cons_succ, List.getElem_cons_zero, List.setIfInBounds_toArray, List.set_cons_zero, List.set_cons_succ])
      refine takeH (i := 3) (v := ?_) rfl (by kernel_rfl) (fun _ _ _ h => h) (Or.inl ⟨by kernel_rfl, ?_⟩) (by assumption) ?_; rotate_left; (focus (intro w hSw; (try dsimp only at hSw); go_simp; (try with_reducible rfl); done)); (try simp only [Act.put, List.getElem_toArray, List.getElem_cons_succ, List.getElem_cons_zero, List.setIfInBounds_toArray, List.set_cons_zero, List.set_cons_succ])
      refine takeH (i := 5) (v := ?_) rfl (by kernel_rfl) (fun _ _ _ h => h) (Or.inl ⟨by kernel_rfl, ?_⟩) (by assumption) ?_; rotate_left; (focus (intro w hSw; (try dsimp only at hSw); go_simp; (try with_reducible rfl); done)); (try simp only [Act.put, List.getElem_toArray, List.getElem_cons_succ, List.getElem_cons_zero, List.setIfInBounds_toArray, List.set_cons_zero, List.set_cons_succ])
      clear hHeld0
      refine readyS (rs := [4]) (by kernel_rfl) (by simp) ?_
      refine ReadyS.consH rfl (fun K hK => ?_) ReadyS.nil
      (try simp only [List.getElem_toArray, List.getElem_cons_succ, List.getElem_cons_zero])
      go_simp
      (with_reducible refine (HRx.out _).mono ?_); rintro e W4 ⟨rfl, hb1⟩
      have HD1 := Lib.hid (below_up HD.out hb1); clear hb1
      refine hK.out _ _ (⟨HAt.out _ HD1.out, rcell (block_up HQ3.out HD1.out)⟩) (fun hHeld => ?_)
      clear hK K
      (try simp only [Act.put, List.getElem_toArray, List.getElem_cons_succ, List.getElem_cons_zero, List.setIfInBounds_toArray, List.set_cons_zero, List.set_cons_succ])
      clear hHeld
      refine readyS (rs := [6]) (by kernel_rfl) (by simp) ?_
      refine ReadyS.consH rfl (fun K hK => ?_) ReadyS.nil
      (try simp only [List.getElem_toArray, List.getElem_cons_succ, List.getElem_cons_zero])
      go_simp
      (with_reducible refine (HWx.out _).mono ?_); rintro e W5 ⟨rfl, hb1⟩
      have HD2 := Lib.hid (below_up HD1.out hb1); clear hb1
      refine hK.out _ _ (⟨HAt.out _ HD2.out, rcell (block_up HQ3.out HD2.out)⟩) (fun hHeld => ?_)
      clear hK K
      (try simp only [Act.put, List.getElem_toArray, List.getElem_cons_succ, List.getElem_cons_zero, List.setIfInBounds_toArray, List.set_cons_zero, List.set_cons_succ])
      cases wi with
      | true =>
        obtain rfl : D = true := by rw [← hD]; rfl
        refine takeF (i := 7) (v := ?_) rfl (by kernel_rfl) (fun _ _ _ h => h) (Or.inl ⟨by kernel_rfl, ?_⟩) (by assumption) ?_; rotate_left; (focus (intro w _; go_simp; (try with_reducible rfl); done)); (try simp only [Act.put, List.getElem_toArray, List.getElem_cons_succ, List.getElem_cons_zero, List.setIfInBounds_toArray, List.set_cons_zero, List.set_cons_succ])
        refine takeF (i := 8) (v := undef) rfl (by kernel_rfl) (fun _ _ _ h => h) (Or.inr ⟨by kernel_rfl, rfl⟩) (by assumption) ?_; (try simp only [Act.put, List.getElem_toArray, List.getElem_cons_succ, List.getElem_cons_zero, List.setIfInBounds_toArray, List.set_cons_zero, List.set_cons_succ])
        refine takeF (i := 9) (v := undef) rfl (by kernel_rfl) (fun _ _ _ h => h) (Or.inr ⟨by kernel_rfl, rfl⟩) (by assumption) ?_; (try simp only [Act.put, List.getElem_toArray, List.getElem_cons_succ, List.getElem_cons_zero, List.setIfInBounds_toArray, List.set_cons_zero, List.set_cons_succ])
        refine takeF (i := 10) (v := undef) rfl (by kernel_rfl) (fun _ _ _ h => h) (Or.inr ⟨by kernel_rfl, rfl⟩) (by assumption) ?_; (try simp only [Act.put, List.getElem_toArray, List.getElem_cons_succ, List.getElem_cons_zero, List.setIfInBounds_toArray, List.set_cons_zero, List.set_cons_succ])
        refine takeF (i := 11) (v := undef) rfl (by kernel_rfl) (fun _ _ _ h => h) (Or.inr ⟨by kernel_rfl, rfl⟩) (by assumption) ?_; (try simp only [Act.put, List.getElem_toArray, List.getElem_cons_succ, List.getElem_cons_zero, List.setIfInBounds_toArray, List.set_cons_zero, List.set_cons_succ])
        refine takeF (i := 12) (v := undef) rfl (by kernel_rfl) (fun _ _ _ h => h) (Or.inr ⟨by kernel_rfl, rfl⟩) (by assumption) ?_; (try simp only [Act.put, List.getElem_toArray, List.getElem_cons_succ, List.getElem_cons_zero, List.setIfInBounds_toArray, List.set_cons_zero, List.set_cons_succ])
        refine takeF (i := 13) (v := undef) rfl (by kernel_rfl) (fun _ _ _ h => h) (Or.inr ⟨by kernel_rfl, rfl⟩) (by assumption) ?_; (try simp only [Act.put, List.getElem_toArray, List.getElem_cons_succ, List.getElem_cons_zero, List.setIfInBounds_toArray, List.set_cons_zero, List.set_cons_succ])
        refine takeF (i := 14) (v := ?_) rfl (by kernel_rfl) (fun _ _ _ h => h) (Or.inl ⟨by kernel_rfl, ?_⟩) (by assumption) ?_; rotate_left; (focus (intro w _; go_simp; (try with_reducible rfl); done)); (try simp only [Act.put, List.getElem_toArray, List.getElem_cons_succ, List.getElem_cons_zero, List.setIfInBounds_toArray, List.set_cons_zero, List.set_cons_succ])
        refine doneS (by kernel_rfl) ?_ _
        go_wp2
        go_meet
        case rel => exact ⟨rfl, HD2.out⟩
      | false =>
        have hD2 : decide (x.l = 32) = D := by rw [← hD]; rfl
        have hD3 : (x.l == 32) = D := by rw [← hD2]; rfl
        refine takeF (i := 7) (v := ?_) rfl (by kernel_rfl) (fun _ _ _ h => h) (Or.inl ⟨by kernel_rfl, ?_⟩) (by assumption) ?_; rotate_left; (focus (intro w _; go_simp; (try with_reducible rfl); done)); (try simp only [Act.put, List.getElem_toArray, List.getElem_cons_succ, List.getElem_cons_zero, List.setIfInBounds_toArray, List.set_cons_zero, List.set_cons_succ])
        refine takeF (i := 8) (v := ?_) rfl (by kernel_rfl) (fun _ _ _ h => h) (Or.inl ⟨by kernel_rfl, ?_⟩) (by assumption) ?_; rotate_left; (focus (intro w _; go_simp; (try with_reducible rfl); done)); (try simp only [Act.put, List.getElem_toArray, List.getElem_cons_succ, List.getElem_cons_zero, List.setIfInBounds_toArray, List.set_cons_zero, List.set_cons_succ])
        refine takeF (i := 9) (v := ?_) rfl (by kernel_rfl) (fun _ _ _ h => h) (Or.inl ⟨by kernel_rfl, ?_⟩) (by assumption) ?_; rotate_left; (focus (intro w _; go_simp; (try with_reducible rfl); done)); (try simp only [Act.put, List.getElem_toArray, List.getElem_cons_succ, List.getElem_cons_zero, List.setIfInBounds_toArray, List.set_cons_zero, List.set_cons_succ])
        refine takeF (i := 10) (v := ?_) rfl (by kernel_rfl) (fun _ _ _ h => h) (Or.inl ⟨by kernel_rfl, ?_⟩) (by assumption) ?_; rotate_left; (focus (intro w _; go_simp; (try with_reducible rfl); done)); (try simp only [Act.put, List.getElem_toArray, List.getElem_cons_succ, List.getElem_cons_zero, List.setIfInBounds_toArray, List.set_cons_zero, List.set_cons_succ])
        refine takeF (i := 11) (v := ?_) rfl (by kernel_rfl) (fun _ _ _ h => h) (Or.inl ⟨by kernel_rfl, ?_⟩) (by assumption) ?_; rotate_left; (focus (intro w _; go_simp; (try with_reducible rfl); done)); (try simp only [Act.put, List.getElem_toArray, List.getElem_cons_succ, List.getElem_cons_zero, List.setIfInBounds_toArray, List.set_cons_zero, List.set_cons_succ])
        refine takeH (i := 12) (v := ?_) rfl (by kernel_rfl) (fun _ _ _ h => h) (Or.inl ⟨by kernel_rfl, ?_⟩) (by assumption) ?_; rotate_left; (focus (intro w hSw; (try dsimp only at hSw); go_simp; (try with_reducible rfl); done)); (try simp only [Act.put, List.getElem_toArray, List.getElem_cons_succ, List.getElem_cons_zero, List.setIfInBounds_toArray, List.set_cons_zero, List.set_cons_succ])
        refine takeF (i := 13) (v := ?_) rfl (by kernel_rfl) (fun _ _ _ h => h) (Or.inl ⟨by kernel_rfl, ?_⟩) (by assumption) ?_; rotate_left; (focus (intro w _; go_simp; (try with_reducible rfl); done)); (try simp only [Act.put, List.getElem_toArray, List.getElem_cons_succ, List.getElem_cons_zero, List.setIfInBounds_toArray, List.set_cons_zero, List.set_cons_succ])
        refine takeF (i := 14) (v := ?_) rfl (by kernel_rfl) (fun _ _ _ h => h) (Or.inl ⟨by kernel_rfl, ?_⟩) (by assumption) ?_; rotate_left; (focus (intro w _; go_simp; (try with_reducible rfl); done)); (try simp only [Act.put, List.getElem_toArray, List.getElem_cons_succ, List.getElem_cons_zero, List.setIfInBounds_toArray, List.set_cons_zero, List.set_cons_succ])
        refine doneS (by kernel_rfl) ?_ _
        go_wp2
        go_meet
        case rel => exact ⟨rfl, HD2.out⟩
    case rest =>
    obtain ⟨rfl, hbc⟩ := hcut
    have HB4 := Lib.hid (below_up HB.out hbc)
    have HAt4 := Lib.hid (fun W' hb => HAt.out W' (below_up hbc hb))
    clear hbc hD HAt HB
    cases D with
    | true =>
      go_wp2
      exact ⟨⟨k + 1, by omega, by go_num, HB4.out⟩, by simp [intOf]; omega⟩
    | false =>
      go_wp2_with fail
      go_loopw [7, 8] (fun vn vq W => ∃ q : Nat, q ≤ 4 ∧ vq = .int .i64 q ∧ vn = .int .i64 (qn x r q : Nat) ∧ Below wc.heap.size wc W) (fun _ vq _ => 4 - (intOf vq).toNat)
      case atStart => exact ⟨0, by omega, rfl, rfl, Below.refl _ _⟩
      case round =>
      obtain ⟨q, hq, rfl, rfl, hb⟩ := hrel
      have HB5 := Lib.hid hb
      have hql := qn_le x r q
      clear hb
      by_cases hq4 : q < 4
      · have d4 : decide ((q : Int) < 4) = true := decide_eq_true (by omega)
        have HKx := Lib.hid (fun W => HKi.out q hq4 W)
        have HKy := Lib.hid (fun W => HKr.out q W)
        have hs := qn_succ x r q
        have HMx := Lib.hid (fun W => HMe.out (x.kid q).rect W)
        generalize (x.kid q).rect = yr at *
        generalize x.kid q = y at *
        obtain ⟨mt, hmt⟩ : ∃ b, yr.meets r = b := ⟨_, rfl⟩
        rw [hmt] at HMx hs
        have HSu := Lib.hid hs
        clear hs hmt
        obtain ⟨n1, hn1⟩ : ∃ n, qn x r (q + 1) = n := ⟨_, rfl⟩
        have HN1 := Lib.hid hn1
        clear hn1
        generalize qn x r q = n0 at *
        go_upto_region 13 with (fail)
        have HAt5 := Lib.hid (fun W' hb => HAt4.out W' (below_up HB5.out hb))
        have HQ5 := Lib.hid (block_up HQ2.out.1 (below_up HB4.out HB5.out))
        have hd := below_drew1 (w := wr)
        have HD := Lib.hid hd
        have f0 := HAt5.out _ hd
        have q0 := rcell (block_up HQ5.out hd)
        refine beginS (S := fun W => (W.cell? ⟨g, o + k * 3, none⟩ = some (.int .u32 (x.x : Nat)) ∧ W.cell? ⟨g, o + k * 3 + 1, none⟩ = some (.int .u32 (x.y : Nat)) ∧ W.cell? ⟨g, o + k * 3 + 2, none⟩ = some (.int .i64 x.l)) ∧ (W.cell? ⟨w.heap.size, 0, none⟩ = some (.int .u32 (r.x0 : Nat)) ∧ W.cell? ⟨w.heap.size, 1, none⟩ = some (.int .u32 (r.y0 : Nat)) ∧ W.cell? ⟨w.heap.size, 2, none⟩ = some (.int .u32 (r.x1 : Nat)) ∧ W.cell? ⟨w.heap.size, 3, none⟩ = some (.int .u32 (r.y1 : Nat)))) [] (by kernel_rfl) ⟨f0, q0⟩ (fun hHeld0 => ?_)
        generalize (World.drew wr) = W0 at *
        clear f0 hd q0
        refine takeF (i := 0) (v := ?_) rfl (by kernel_rfl) (fun _ _ _ h => h) (Or.inl ⟨by kernel_rfl, ?_⟩) (by assumption) ?_; rotate_left; (focus (intro w _; go_simp; (try with_reducible rfl); done)); (try simp only [Act.put, List.getElem_toArray, List.getElem_cons_succ, List.getElem_cons_zero, List.setIfInBounds_toArray, List.set_cons_zero, List.set_cons_succ])
        refine takeF (i := 1) (v := ?_) rfl (by kernel_rfl) (fun _ _ _ h => h) (Or.inl ⟨by kernel_rfl, ?_⟩) (by assumption) ?_; rotate_left; (focus (intro w _; go_simp; (try with_reducible rfl); done)); (try simp only [Act.put, List.getElem_toArray, List.getElem_cons_succ, List.getElem_cons_zero, List.setIfInBounds_toArray, List.set_cons_zero, List.set_cons_succ])
        refine takeF (i := 2) (v := ?_) rfl (by kernel_rfl) (fun _ _ _ h => h) (Or.inl ⟨by kernel_rfl, ?_⟩) (by assumption) ?_; rotate_left; (focus (intro w _; go_simp; (try with_reducible rfl); done)); (try simp only [Act.put, List.getElem_toArray, List.getElem_cons_succ, List.getElem_cons_zero, List.setIfInBounds_toArray, List.set_cons_zero, List.set_cons_succ])
        refine takeH (i := 3) (v := ?_) rfl (by kernel_rfl) (fun _ _ _ h => h) (Or.inl ⟨by kernel_rfl, ?_⟩) (by assumption) ?_; rotate_left; (focus (intro w hSw; (try dsimp only at hSw); go_simp; (try with_reducible rfl); done)); (try simp only [Act.put, List.getElem_toArray, List.getElem_cons_succ, List.getElem_cons_zero, List.setIfInBounds_toArray, List.set_cons_zero, List.set_cons_succ])
        refine takeF (i := 4) (v := ?_) rfl (by kernel_rfl) (fun _ _ _ h => h) (Or.inl ⟨by kernel_rfl, ?_⟩) (by assumption) ?_; rotate_left; (focus (intro w _; go_simp; (try with_reducible rfl); done)); (try simp only [Act.put, List.getElem_toArray, List.getElem_cons_succ, List.getElem_cons_zero, List.setIfInBounds_toArray, List.set_cons_zero, List.set_cons_succ])
        refine takeH (i := 7) (v := ?_) rfl (by kernel_rfl) (fun _ _ _ h => h) (Or.inl ⟨by kernel_rfl, ?_⟩) (by assumption) ?_; rotate_left; (focus (intro w hSw; (try dsimp only at hSw); go_simp; (try with_reducible rfl); done)); (try simp only [Act.put, List.getElem_toArray, List.getElem_cons_succ, List.getElem_cons_zero, List.setIfInBounds_toArray, List.set_cons_zero, List.set_cons_succ])
        clear hHeld0
        refine readyS (rs := [5]) (by kernel_rfl) (by simp) ?_
        refine ReadyS.consH rfl (fun K hK => ?_) ReadyS.nil
        (try simp only [List.getElem_toArray, List.getElem_cons_succ, List.getElem_cons_zero])
        go_simp
        (with_reducible refine (HKx.out _).mono ?_); rintro e W4 ⟨rfl, hb1⟩
        have HD1 := Lib.hid (below_up HD.out hb1); clear hb1
        refine hK.out _ _ (⟨HAt5.out _ HD1.out, rcell (block_up HQ5.out HD1.out)⟩) (fun hHeld => ?_)
        clear hK K
        (try simp only [Act.put, List.getElem_toArray, List.getElem_cons_succ, List.getElem_cons_zero, List.setIfInBounds_toArray, List.set_cons_zero, List.set_cons_succ])
        clear hHeld
        refine readyS (rs := [6]) (by kernel_rfl) (by simp) ?_
        refine ReadyS.consH rfl (fun K hK => ?_) ReadyS.nil
        (try simp only [List.getElem_toArray, List.getElem_cons_succ, List.getElem_cons_zero])
        go_simp
        (with_reducible refine (HKy.out _).mono ?_); rintro e W5 ⟨rfl, hb1⟩
        have HD2 := Lib.hid (below_up HD1.out hb1); clear hb1
        refine hK.out _ _ (⟨HAt5.out _ HD2.out, rcell (block_up HQ5.out HD2.out)⟩) (fun hHeld => ?_)
        clear hK K
        (try simp only [Act.put, List.getElem_toArray, List.getElem_cons_succ, List.getElem_cons_zero, List.setIfInBounds_toArray, List.set_cons_zero, List.set_cons_succ])
        clear hHeld
        refine readyS (rs := [8]) (by kernel_rfl) (by simp) ?_
        refine ReadyS.consH rfl (fun K hK => ?_) ReadyS.nil
        (try simp only [List.getElem_toArray, List.getElem_cons_succ, List.getElem_cons_zero])
        go_simp
        (with_reducible refine (HMx.out _).mono ?_); rintro e W6 ⟨rfl, hb1⟩
        have HD3 := Lib.hid (below_up HB5.out (below_up HD2.out hb1)); clear hb1
        refine hK.out _ _ (⟨HAt4.out _ HD3.out, rcell (block_up HQ2.out.1 (below_up HB4.out HD3.out))⟩) (fun hHeld => ?_)
        clear hK K
        (try simp only [Act.put, List.getElem_toArray, List.getElem_cons_succ, List.getElem_cons_zero, List.setIfInBounds_toArray, List.set_cons_zero, List.set_cons_succ])
        clear hHeld
        refine doneS (by kernel_rfl) ?_ _
        cases mt with
        | true =>
          have hn : n1 = n0 + 1 := by rw [← HN1.out, HSu.out]; simp
          have Hn := Lib.hid hn
          clear hn
          go_wp2
          exact ⟨⟨q + 1, by omega, by go_num, by rw [HN1.out, Hn.out]; go_num, HD3.out⟩, by simp [intOf]; omega⟩
        | false =>
          have hn : n1 = n0 := by rw [← HN1.out, HSu.out]; simp
          have Hn := Lib.hid hn
          clear hn
          go_wp2
          exact ⟨⟨q + 1, by omega, by go_num, by rw [HN1.out, Hn.out], HD3.out⟩, by simp [intOf]; omega⟩
      · obtain rfl : q = 4 := by omega
        rw [show ((4 : Nat) : Int) = 4 from rfl]
        rw [qn_four]
        have hcd : decide (L.length - 1 + (split x r).length ≤ m) = false := HCd.out.symm
        have hcd2 := of_decide_eq_false hcd
        have hs4 := split_le x r
        generalize (split x r).length = s at *
        have kw1 : IntKind.i64.wrap ((L.length : Int) - 1) = (L.length : Int) - 1 := by rw [IntWalk.i64_in _ (by omega)]
        have kw2 : IntKind.i64.wrap ((L.length : Int) - 1 + s) = (L.length : Int) - 1 + s := by rw [IntWalk.i64_in _ (by omega)]
        have dF : decide ((L.length : Int) - 1 + s ≤ m) = false := decide_eq_false (by omega)
        have HB6 := Lib.hid (below_up HB4.out HB5.out)
        clear hcd hcd2
        go_wp2
        exact ⟨⟨k + 1, by omega, by go_num, HB6.out⟩, by simp [intOf]; omega⟩
  · have hkl : k = L.length := by omega
    subst hkl
    have d : decide ((L.length : Int) < L.length) = false := decide_eq_false (by omega)
    have dn : decide (L.length < L.length) = false := decide_eq_false (by omega)
    have HBB := Lib.hid (below_up HQ2.out.2 HB.out)
    go_wp2
    go_ret
    exact ⟨rfl, HBB.out⟩
end Go.Proofs.Ytdomngpkahgoiaa.Ti
