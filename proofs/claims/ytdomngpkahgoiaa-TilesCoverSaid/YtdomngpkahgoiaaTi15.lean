/- The walk over croftlaw41.TilesCover. -/
import Derived.Test.YtdomngpkahgoiaaTi14
namespace Go.Proofs.Ytdomngpkahgoiaa.Ti
open Go.RowKit Rg St Zw
set_option linter.unusedVariables false
set_option linter.unusedSimpArgs false
theorem int_u32 {a b : Int} (h : a = b) : Value.int .u32 a = .int .u32 b := h ▸ rfl
/-- The nearest one within. -/
def clampN (x a b : Nat) : Nat := min (max x a) b
theorem clamp_in {r : RcS} (h : r.emp = false) (x y : Nat) : r.In (clampN x r.x0 r.x1) (clampN y r.y0 r.y1) := by
  simp only [RcS.emp, Bool.or_eq_false_iff, decide_eq_false_iff_not] at h
  unfold RcS.In clampN
  omega
theorem clamp_if (x a b : Nat) (h : a ≤ b) : (if (b : Int) < (if x < a then (a : Int) else (x : Int)) then (b : Int) else (if x < a then (a : Int) else (x : Int))) = ((clampN x a b : Nat) : Int) := by
  unfold clampN
  split <;> split <;> (try split) <;> omega
theorem chk_zero {c : CeS} (h : c.good) : chkC c = 0 := by
  unfold chkC
  rw [if_pos h.2]
theorem count_snoc (L : List CeS) (p : CeS → Bool) (k : Nat) (h : k < L.length) : (L.take (k + 1)).countP p = (L.take k).countP p + if p L[k] = true then 1 else 0 := by
  rw [List.take_succ_eq_append_getElem h, List.countP_append]
  simp [List.countP_cons]
set_option maxHeartbeats 8000000 in
set_option maxRecDepth 100000 in
theorem cover_walk (r : RcS) (most : Int) (x y : Nat) (w : World) (hr : r.fine) (hm : -9223372036854775808 ≤ most ∧ most ≤ 9223372036854775807) (hx : x < 4294967296) (hy : y < 4294967296) :
    Calls Try.prog 6 #[rcv r, .int .i64 most, .int .u32 (x : Nat), .int .u32 (y : Nat)] w fun e w' => e = .returned (.bool true) ∧ Below w.heap.size w w' := by
  have HAl := Lib.hid (fun W => alive_ok W)
  have HN := Lib.hid (fun W => near_ok most W hm)
  have HC := Lib.hid (fun (m : Nat) (hm : 1 ≤ m ∧ m ≤ 20) W => cover_ok r m W hr (by omega) m (by omega))
  have HAll := Lib.hid (fun (m : Nat) (hm : 1 ≤ m ∧ m ≤ 20) L h => cover_all hr (m := m) hm.1 (L := L) h)
  have HE := Lib.hid (fun W => empty_ok r W)
  have HMe := Lib.hid (fun q W => meets_ok q r W)
  have HF := Lib.hid hr
  have hq := alloc_at (w := w) (.cells #[.int .u32 (r.x0 : Nat), .int .u32 (r.y0 : Nat), .int .u32 (r.x1 : Nat), .int .u32 (r.y1 : Nat)] 24) rfl
  have hb := below_alloc1 w (.cells #[.int .u32 (r.x0 : Nat), .int .u32 (r.y0 : Nat), .int .u32 (r.x1 : Nat), .int .u32 (r.y1 : Nat)] 24)
  have HQ := Lib.hid (And.intro hq hb)
  clear hq hb hr hm
  go_enter Try.func6, Try.ntmps6
  go_wp2_with fail
  generalize (w.alloc _) = w0 at *
  (with_reducible refine (HAl.out _).mono ?_); rintro e w1 ⟨rfl, hb⟩
  have HQ1 := Lib.hid (And.intro (block_up HQ.out.1 hb) (below_up HQ.out.2 hb)); clear hb
  go_wp2_with fail
  (with_reducible refine (HN.out _).mono ?_); rintro e w5 ⟨m, rfl, hk, hw5⟩
  subst hw5
  have hm : 1 ≤ m ∧ m ≤ 20 := by omega
  have HC2 := Lib.hid (fun W => HC.out m hm W)
  have HAll2 := Lib.hid (fun L => HAll.out m hm L)
  clear hk
  have q0 := rcell HQ1.out.1
  go_wp2_with fail
  (with_reducible refine (HC2.out _).mono ?_); rintro e w2 ⟨v2, L, rfl, ho, hif, hb⟩
  obtain ⟨hal, hle, _, hone⟩ := HAll2.out L hif
  have HG := Lib.hid hal
  have HOne := Lib.hid hone
  have HQ2 := Lib.hid (And.intro (block_up HQ1.out.1 hb) (below_up HQ1.out.2 hb))
  have hrow := srd_own CeS.cells_len (by decide) ho
  obtain ⟨A, cap, rfl, _, _, _, _⟩ := own_rd ho
  have HRow := Lib.hid hrow
  have HIf := Lib.hid hif
  clear hb ho hif hal hone q0 hrow HAll HAll2 HC HC2
  have hm1 := hm.1
  have hm2 := hm.2
  clear hm
  obtain ⟨E, hE⟩ : ∃ b, r.emp = b := ⟨_, rfl⟩
  rw [hE] at HE HOne
  have q0 := rcell HQ2.out.1
  go_wp2_with fail
  (with_reducible refine (HE.out _).mono ?_); rintro e w3 ⟨rfl, hb⟩
  have HQ3 := Lib.hid (And.intro (block_up HQ2.out.1 hb) (below_up HQ2.out.2 hb))
  have HRow3 := Lib.hid (HRow.out.below hb)
  clear hb q0 HQ2 HRow HQ1 HQ
  cases E with
  | true =>
    have hL : L = [] := by have := HIf.out; rwa [hE, if_pos rfl] at this
    have hl0 : L.length = 0 := by rw [hL]; rfl
    rw [hl0]
    (try rw [show ((0 : Nat) : Int) = 0 from rfl])
    clear hL hl0 hle hE
    go_wp2
    go_ret
    exact ⟨rfl, HQ3.out.2⟩
  | false =>
  have HEm := Lib.hid hE
  clear hE
  go_upto_region 7 with (fail)
  go_cut [2, 3] from 24 to 37 (fun v2 v3 wx => v2 = .int .u32 (clampN x r.x0 r.x1 : Nat) ∧ v3 = .int .u32 (clampN y r.y0 r.y1 : Nat) ∧ Below w3.heap.size w3 wx)
  case first =>
    have hd := below_drew1 (w := w3)
    have HD := Lib.hid hd
    have q0 := rcell (block_up HQ3.out.1 hd)
    refine beginS (S := fun W => W.cell? ⟨w.heap.size, 0, none⟩ = some (.int .u32 (r.x0 : Nat)) ∧ W.cell? ⟨w.heap.size, 1, none⟩ = some (.int .u32 (r.y0 : Nat)) ∧ W.cell? ⟨w.heap.size, 2, none⟩ = some (.int .u32 (r.x1 : Nat)) ∧ W.cell? ⟨w.heap.size, 3, none⟩ = some (.int .u32 (r.y1 : Nat))) [] (by kernel_rfl) q0 (fun hHeld0 => ?_)
    generalize (World.drew w3) = W0 at *
    clear hd q0
    refine takeF (i := 0) (v := ?_) rfl (by kernel_rfl) (fun _ _ _ h => h) (Or.inl ⟨by kernel_rfl, ?_⟩) (by assumption) ?_; rotate_left; (focus (intro w _; go_simp; (try with_reducible rfl); done)); (try simp only [Act.put, List.getElem_toArray, List.getElem_cons_succ, List.getElem_cons_zero, List.setIfInBounds_toArray, List.set_cons_zero, List.set_cons_succ])
    refine takeF (i := 1) (v := ?_) rfl (by kernel_rfl) (fun _ _ _ h => h) (Or.inl ⟨by kernel_rfl, ?_⟩) (by assumption) ?_; rotate_left; (focus (intro w _; go_simp; (try with_reducible rfl); done)); (try simp only [Act.put, List.getElem_toArray, List.getElem_cons_succ, List.getElem_cons_zero, List.setIfInBounds_toArray, List.set_cons_zero, List.set_cons_succ])
    refine takeH (i := 2) (v := ?_) rfl (by kernel_rfl) (fun _ _ _ h => h) (Or.inl ⟨by kernel_rfl, ?_⟩) (by assumption) ?_; rotate_left; (focus (intro w hSw; (try dsimp only at hSw); go_simp; (try with_reducible rfl); done)); (try simp only [Act.put, List.getElem_toArray, List.getElem_cons_succ, List.getElem_cons_zero, List.setIfInBounds_toArray, List.set_cons_zero, List.set_cons_succ])
    refine takeF (i := 3) (v := ?_) rfl (by kernel_rfl) (fun _ _ _ h => h) (Or.inl ⟨by kernel_rfl, ?_⟩) (by assumption) ?_; rotate_left; (focus (intro w _; go_simp; (try with_reducible rfl); done)); (try simp only [Act.put, List.getElem_toArray, List.getElem_cons_succ, List.getElem_cons_zero, List.setIfInBounds_toArray, List.set_cons_zero, List.set_cons_succ])
    refine takeF (i := 4) (v := ?_) rfl (by kernel_rfl) (fun _ _ _ h => h) (Or.inl ⟨by kernel_rfl, ?_⟩) (by assumption) ?_; rotate_left; (focus (intro w _; go_simp; (try with_reducible rfl); done)); (try simp only [Act.put, List.getElem_toArray, List.getElem_cons_succ, List.getElem_cons_zero, List.setIfInBounds_toArray, List.set_cons_zero, List.set_cons_succ])
    refine takeH (i := 5) (v := ?_) rfl (by kernel_rfl) (fun _ _ _ h => h) (Or.inl ⟨by kernel_rfl, ?_⟩) (by assumption) ?_; rotate_left; (focus (intro w hSw; (try dsimp only at hSw); go_simp; (try with_reducible rfl); done)); (try simp only [Act.put, List.getElem_toArray, List.getElem_cons_succ, List.getElem_cons_zero, List.setIfInBounds_toArray, List.set_cons_zero, List.set_cons_succ])
    refine takeF (i := 6) (v := ?_) rfl (by kernel_rfl) (fun _ _ _ h => h) (Or.inl ⟨by kernel_rfl, ?_⟩) (by assumption) ?_; rotate_left; (focus (intro w _; go_simp; (try with_reducible rfl); done)); (try simp only [Act.put, List.getElem_toArray, List.getElem_cons_succ, List.getElem_cons_zero, List.setIfInBounds_toArray, List.set_cons_zero, List.set_cons_succ])
    refine takeF (i := 7) (v := ?_) rfl (by kernel_rfl) (fun _ _ _ h => h) (Or.inl ⟨by kernel_rfl, ?_⟩) (by assumption) ?_; rotate_left; (focus (intro w _; go_simp; (try with_reducible rfl); done)); (try simp only [Act.put, List.getElem_toArray, List.getElem_cons_succ, List.getElem_cons_zero, List.setIfInBounds_toArray, List.set_cons_zero, List.set_cons_succ])
    refine takeF (i := 8) (v := ?_) rfl (by kernel_rfl) (fun _ _ _ h => h) (Or.inl ⟨by kernel_rfl, ?_⟩) (by assumption) ?_; rotate_left; (focus (intro w _; go_simp; (try with_reducible rfl); done)); (try simp only [Act.put, List.getElem_toArray, List.getElem_cons_succ, List.getElem_cons_zero, List.setIfInBounds_toArray, List.set_cons_zero, List.set_cons_succ])
    refine takeH (i := 9) (v := ?_) rfl (by kernel_rfl) (fun _ _ _ h => h) (Or.inl ⟨by kernel_rfl, ?_⟩) (by assumption) ?_; rotate_left; (focus (intro w hSw; (try dsimp only at hSw); go_simp; (try with_reducible rfl); done)); (try simp only [Act.put, List.getElem_toArray, List.getElem_cons_succ, List.getElem_cons_zero, List.setIfInBounds_toArray, List.set_cons_zero, List.set_cons_succ])
    refine takeF (i := 10) (v := ?_) rfl (by kernel_rfl) (fun _ _ _ h => h) (Or.inl ⟨by kernel_rfl, ?_⟩) (by assumption) ?_; rotate_left; (focus (intro w _; go_simp; (try with_reducible rfl); done)); (try simp only [Act.put, List.getElem_toArray, List.getElem_cons_succ, List.getElem_cons_zero, List.setIfInBounds_toArray, List.set_cons_zero, List.set_cons_succ])
    refine takeF (i := 11) (v := ?_) rfl (by kernel_rfl) (fun _ _ _ h => h) (Or.inl ⟨by kernel_rfl, ?_⟩) (by assumption) ?_; rotate_left; (focus (intro w _; go_simp; (try with_reducible rfl); done)); (try simp only [Act.put, List.getElem_toArray, List.getElem_cons_succ, List.getElem_cons_zero, List.setIfInBounds_toArray, List.set_cons_zero, List.set_cons_succ])
    refine takeH (i := 12) (v := ?_) rfl (by kernel_rfl) (fun _ _ _ h => h) (Or.inl ⟨by kernel_rfl, ?_⟩) (by assumption) ?_; rotate_left; (focus (intro w hSw; (try dsimp only at hSw); go_simp; (try with_reducible rfl); done)); (try simp only [Act.put, List.getElem_toArray, List.getElem_cons_succ, List.getElem_cons_zero, List.setIfInBounds_toArray, List.set_cons_zero, List.set_cons_succ])
    refine takeF (i := 13) (v := ?_) rfl (by kernel_rfl) (fun _ _ _ h => h) (Or.inl ⟨by kernel_rfl, ?_⟩) (by assumption) ?_; rotate_left; (focus (intro w _; go_simp; (try with_reducible rfl); done)); (try simp only [Act.put, List.getElem_toArray, List.getElem_cons_succ, List.getElem_cons_zero, List.setIfInBounds_toArray, List.set_cons_zero, List.set_cons_succ])
    refine takeF (i := 14) (v := ?_) rfl (by kernel_rfl) (fun _ _ _ h => h) (Or.inl ⟨by kernel_rfl, ?_⟩) (by assumption) ?_; rotate_left; (focus (intro w _; go_simp; (try with_reducible rfl); done)); (try simp only [Act.put, List.getElem_toArray, List.getElem_cons_succ, List.getElem_cons_zero, List.setIfInBounds_toArray, List.set_cons_zero, List.set_cons_succ])
    refine takeF (i := 15) (v := ?_) rfl (by kernel_rfl) (fun _ _ _ h => h) (Or.inl ⟨by kernel_rfl, ?_⟩) (by assumption) ?_; rotate_left; (focus (intro w _; go_simp; (try with_reducible rfl); done)); (try simp only [Act.put, List.getElem_toArray, List.getElem_cons_succ, List.getElem_cons_zero, List.setIfInBounds_toArray, List.set_cons_zero, List.set_cons_succ])
    refine doneS (by kernel_rfl) ?_ _
    have hxy := HEm.out
    simp only [RcS.emp, Bool.or_eq_false_iff, decide_eq_false_iff_not] at hxy
    rw [clamp_if x r.x0 r.x1 (by omega), clamp_if y r.y0 r.y1 (by omega)]
    clear hxy
    go_wp2
    all_goals go_meet
    all_goals exact ⟨rfl, rfl, HD.out⟩
  case rest =>
  obtain ⟨rfl, rfl, hb⟩ := hcut
  have hin := clamp_in HEm.out x y
  have hcnt := HOne.out trivial _ _ hin
  have hf := HF.out
  have hXY : clampN x r.x0 r.x1 < 4294967296 ∧ clampN y r.y0 r.y1 < 4294967296 := by
    unfold RcS.In at hin; unfold RcS.fine at hf; omega
  clear hin hf
  generalize clampN x r.x0 r.x1 = X at *
  generalize clampN y r.y0 r.y1 = Y at *
  have HHa := Lib.hid (fun c h W => hasc_ok c X Y W h hXY.1 hXY.2)
  have HCnt := Lib.hid hcnt
  have HQ4 := Lib.hid (And.intro (block_up HQ3.out.1 hb) (below_up HQ3.out.2 hb))
  have HRow4 := Lib.hid (HRow3.out.below hb)
  have hl1 : 1 ≤ L.length := by rw [← hcnt]; exact List.countP_le_length
  clear hb hcnt hXY HRow3 HQ3
  go_wp2_with fail
  generalize wc = w4 at *
  go_loopw [10, 11] (fun vn vi W => ∃ k : Nat, k ≤ L.length ∧ vi = .int .i64 k ∧ vn = .int .i64 ((L.take k).countP (fun c => c.has X Y) : Nat) ∧ Below w4.heap.size w4 W) (fun _ vi _ => L.length - (intOf vi).toNat)
  case atStart => exact ⟨0, by omega, rfl, rfl, Below.refl _ _⟩
  case round =>
  obtain ⟨k, hk, rfl, rfl, hb⟩ := hrel
  have HB := Lib.hid hb
  clear hb
  by_cases hlt : k < L.length
  · have d : decide ((k : Int) < L.length) = true := decide_eq_true (by omega)
    have dn : decide (k < L.length) = true := decide_eq_true hlt
    have bk : (k : Int) < L.length := by omega
    obtain ⟨g, o, rfl, f0, f1, f2⟩ := c_at (HRow4.out.below HB.out) hlt
    have HAt : Hid (∀ W', Below wr.heap.size wr W' → AtC W' g o k L[k]) := Lib.hid (fun W' hb => by
      obtain ⟨g1, o1, e, f⟩ := c_at (HRow4.out.below (below_up HB.out hb)) hlt
      cases e; exact f)
    have hg := HG.out _ (List.getElem_mem hlt)
    have HRx := Lib.hid (fun W => rectc_ok L[k] W hg.1.1)
    have hchk := fun W => checkc_ok L[k] W hg.1.1
    rw [chk_zero hg.1] at hchk
    have HCh := Lib.hid hchk
    have hme := fun W => HMe.out L[k].rect W
    rw [hg.2] at hme
    have HMx := Lib.hid hme
    have HHx := Lib.hid (fun W => HHa.out L[k] hg.1.1 W)
    have hs := count_snoc L (fun c => c.has X Y) k hlt
    have hcl : (L.take k).countP (fun c => c.has X Y) ≤ k := Nat.le_trans List.countP_le_length (List.length_take_le _ _)
    obtain ⟨n1, hn1⟩ : ∃ n, (L.take (k + 1)).countP (fun c => c.has X Y) = n := ⟨_, rfl⟩
    have HN1 := Lib.hid hn1
    rw [hn1] at hs
    clear hn1 hchk hme hg
    generalize (L.take k).countP (fun c => c.has X Y) = n0 at *
    generalize L[k] = c at *
    generalize c.rect = cr at *
    generalize c.has X Y = hc at *
    have HS := Lib.hid hs
    clear hs
    go_wp2_with fail
    (with_reducible refine (HHx.out _).mono ?_); rintro e w5 ⟨rfl, hb5⟩
    have HB5 := Lib.hid (below_up HB.out hb5)
    have HAt5 := Lib.hid (fun W' hb => HAt.out W' (below_up hb5 hb))
    clear hb5 f0 f1 f2 HAt
    go_upto_if 50 with (fail)
    go_cut [10] from 50 to 52 (fun v10 wx => v10 = .int .i64 (n1 : Nat) ∧ w5 = wx)
    case first =>
      cases hc with
      | true =>
        have hn : n1 = n0 + 1 := by rw [HS.out]; simp
        have Hn := Lib.hid hn
        clear hn
        go_wp2
        go_meet
        case rel => exact ⟨by rw [Hn.out]; go_num, rfl⟩
      | false =>
        have hn : n1 = n0 := by rw [HS.out]; simp
        have Hn := Lib.hid hn
        clear hn
        go_wp2
        go_meet
        case rel => exact ⟨by rw [Hn.out], rfl⟩
    case rest =>
    obtain ⟨rfl, hw⟩ := hcut
    subst hw
    go_wp2_with fail
    have hd := below_drew1 (w := w5)
    have HD := Lib.hid hd
    have HQ5 := Lib.hid (block_up HQ4.out.1 HB5.out)
    have z0 := HAt5.out _ hd
    have q0 := rcell (block_up HQ5.out hd)
    refine beginS (S := fun W => (W.cell? ⟨g, o + k * 3, none⟩ = some (.int .u32 (c.x : Nat)) ∧ W.cell? ⟨g, o + k * 3 + 1, none⟩ = some (.int .u32 (c.y : Nat)) ∧ W.cell? ⟨g, o + k * 3 + 2, none⟩ = some (.int .i64 c.l)) ∧ (W.cell? ⟨w.heap.size, 0, none⟩ = some (.int .u32 (r.x0 : Nat)) ∧ W.cell? ⟨w.heap.size, 1, none⟩ = some (.int .u32 (r.y0 : Nat)) ∧ W.cell? ⟨w.heap.size, 2, none⟩ = some (.int .u32 (r.x1 : Nat)) ∧ W.cell? ⟨w.heap.size, 3, none⟩ = some (.int .u32 (r.y1 : Nat)))) [] (by kernel_rfl) ⟨z0, q0⟩ (fun hHeld0 => ?_)
    generalize (World.drew w5) = W0 at *
    clear z0 hd q0
    refine takeF (i := 0) (v := ?_) rfl (by kernel_rfl) (fun _ _ _ h => h) (Or.inl ⟨by kernel_rfl, ?_⟩) (by assumption) ?_; rotate_left; (focus (intro w _; go_simp; (try with_reducible rfl); done)); (try simp only [Act.put, List.getElem_toArray, List.getElem_cons_succ, List.getElem_cons_zero, List.setIfInBounds_toArray, List.set_cons_zero, List.set_cons_succ])
    refine takeF (i := 1) (v := ?_) rfl (by kernel_rfl) (fun _ _ _ h => h) (Or.inl ⟨by kernel_rfl, ?_⟩) (by assumption) ?_; rotate_left; (focus (intro w _; go_simp; (try with_reducible rfl); done)); (try simp only [Act.put, List.getElem_toArray, List.getElem_cons_succ, List.getElem_cons_zero, List.setIfInBounds_toArray, List.set_cons_zero, List.set_cons_succ])
    refine takeF (i := 2) (v := ?_) rfl (by kernel_rfl) (fun _ _ _ h => h) (Or.inl ⟨by kernel_rfl, ?_⟩) (by assumption) ?_; rotate_left; (focus (intro w _; go_simp; (try with_reducible rfl); done)); (try simp only [Act.put, List.getElem_toArray, List.getElem_cons_succ, List.getElem_cons_zero, List.setIfInBounds_toArray, List.set_cons_zero, List.set_cons_succ])
    refine takeH (i := 3) (v := ?_) rfl (by kernel_rfl) (fun _ _ _ h => h) (Or.inl ⟨by kernel_rfl, ?_⟩) (by assumption) ?_; rotate_left; (focus (intro w hSw; (try dsimp only at hSw); go_simp; (try with_reducible rfl); done)); (try simp only [Act.put, List.getElem_toArray, List.getElem_cons_succ, List.getElem_cons_zero, List.setIfInBounds_toArray, List.set_cons_zero, List.set_cons_succ])
    clear hHeld0
    refine readyS (rs := [4]) (by kernel_rfl) (by simp) ?_
    refine ReadyS.consH rfl (fun K hK => ?_) ReadyS.nil
    (try simp only [List.getElem_toArray, List.getElem_cons_succ, List.getElem_cons_zero])
    go_simp
    (with_reducible refine (HCh.out _).mono ?_); rintro e W4 ⟨rfl, hb1⟩
    have HD1 := Lib.hid (below_up HD.out hb1); clear hb1
    refine hK.out _ _ (⟨HAt5.out _ HD1.out, rcell (block_up HQ5.out HD1.out)⟩) (fun hHeld => ?_)
    clear hK K
    (try simp only [Act.put, List.getElem_toArray, List.getElem_cons_succ, List.getElem_cons_zero, List.setIfInBounds_toArray, List.set_cons_zero, List.set_cons_succ])
    refine takeF (i := 5) (v := ?_) rfl (by kernel_rfl) (fun _ _ _ h => h) (Or.inl ⟨by kernel_rfl, ?_⟩) (by assumption) ?_; rotate_left; (focus (intro w _; go_simp; (try with_reducible rfl); done)); (try simp only [Act.put, List.getElem_toArray, List.getElem_cons_succ, List.getElem_cons_zero, List.setIfInBounds_toArray, List.set_cons_zero, List.set_cons_succ])
    refine takeF (i := 6) (v := ?_) rfl (by kernel_rfl) (fun _ _ _ h => h) (Or.inl ⟨by kernel_rfl, ?_⟩) (by assumption) ?_; rotate_left; (focus (intro w _; go_simp; (try with_reducible rfl); done)); (try simp only [Act.put, List.getElem_toArray, List.getElem_cons_succ, List.getElem_cons_zero, List.setIfInBounds_toArray, List.set_cons_zero, List.set_cons_succ])
    refine takeF (i := 7) (v := ?_) rfl (by kernel_rfl) (fun _ _ _ h => h) (Or.inl ⟨by kernel_rfl, ?_⟩) (by assumption) ?_; rotate_left; (focus (intro w _; go_simp; (try with_reducible rfl); done)); (try simp only [Act.put, List.getElem_toArray, List.getElem_cons_succ, List.getElem_cons_zero, List.setIfInBounds_toArray, List.set_cons_zero, List.set_cons_succ])
    refine takeF (i := 8) (v := ?_) rfl (by kernel_rfl) (fun _ _ _ h => h) (Or.inl ⟨by kernel_rfl, ?_⟩) (by assumption) ?_; rotate_left; (focus (intro w _; go_simp; (try with_reducible rfl); done)); (try simp only [Act.put, List.getElem_toArray, List.getElem_cons_succ, List.getElem_cons_zero, List.setIfInBounds_toArray, List.set_cons_zero, List.set_cons_succ])
    refine takeF (i := 9) (v := ?_) rfl (by kernel_rfl) (fun _ _ _ h => h) (Or.inl ⟨by kernel_rfl, ?_⟩) (by assumption) ?_; rotate_left; (focus (intro w _; go_simp; (try with_reducible rfl); done)); (try simp only [Act.put, List.getElem_toArray, List.getElem_cons_succ, List.getElem_cons_zero, List.setIfInBounds_toArray, List.set_cons_zero, List.set_cons_succ])
    refine takeH (i := 10) (v := ?_) rfl (by kernel_rfl) (fun _ _ _ h => h) (Or.inl ⟨by kernel_rfl, ?_⟩) (by assumption) ?_; rotate_left; (focus (intro w hSw; (try dsimp only at hSw); go_simp; (try with_reducible rfl); done)); (try simp only [Act.put, List.getElem_toArray, List.getElem_cons_succ, List.getElem_cons_zero, List.setIfInBounds_toArray, List.set_cons_zero, List.set_cons_succ])
    refine takeH (i := 12) (v := ?_) rfl (by kernel_rfl) (fun _ _ _ h => h) (Or.inl ⟨by kernel_rfl, ?_⟩) (by assumption) ?_; rotate_left; (focus (intro w hSw; (try dsimp only at hSw); go_simp; (try with_reducible rfl); done)); (try simp only [Act.put, List.getElem_toArray, List.getElem_cons_succ, List.getElem_cons_zero, List.setIfInBounds_toArray, List.set_cons_zero, List.set_cons_succ])
    clear hHeld
    refine readyS (rs := [11]) (by kernel_rfl) (by simp) ?_
    refine ReadyS.consH rfl (fun K hK => ?_) ReadyS.nil
    (try simp only [List.getElem_toArray, List.getElem_cons_succ, List.getElem_cons_zero])
    go_simp
    (with_reducible refine (HRx.out _).mono ?_); rintro e W5 ⟨rfl, hb1⟩
    have HD2 := Lib.hid (below_up HD1.out hb1); clear hb1
    refine hK.out _ _ (⟨HAt5.out _ HD2.out, rcell (block_up HQ5.out HD2.out)⟩) (fun hHeld => ?_)
    clear hK K
    (try simp only [Act.put, List.getElem_toArray, List.getElem_cons_succ, List.getElem_cons_zero, List.setIfInBounds_toArray, List.set_cons_zero, List.set_cons_succ])
    clear hHeld
    refine readyS (rs := [13]) (by kernel_rfl) (by simp) ?_
    refine ReadyS.consH rfl (fun K hK => ?_) ReadyS.nil
    (try simp only [List.getElem_toArray, List.getElem_cons_succ, List.getElem_cons_zero])
    go_simp
    (with_reducible refine (HMx.out _).mono ?_); rintro e W6 ⟨rfl, hb1⟩
    have HD3 := Lib.hid (below_up HB5.out (below_up HD2.out hb1)); have HD3' := Lib.hid (below_up HD2.out hb1); clear hb1
    refine hK.out _ _ (⟨HAt5.out _ HD3'.out, rcell (block_up HQ5.out HD3'.out)⟩) (fun hHeld => ?_)
    clear hK K
    (try simp only [Act.put, List.getElem_toArray, List.getElem_cons_succ, List.getElem_cons_zero, List.setIfInBounds_toArray, List.set_cons_zero, List.set_cons_succ])
    refine takeF (i := 14) (v := ?_) rfl (by kernel_rfl) (fun _ _ _ h => h) (Or.inl ⟨by kernel_rfl, ?_⟩) (by assumption) ?_; rotate_left; (focus (intro w _; go_simp; (try with_reducible rfl); done)); (try simp only [Act.put, List.getElem_toArray, List.getElem_cons_succ, List.getElem_cons_zero, List.setIfInBounds_toArray, List.set_cons_zero, List.set_cons_succ])
    refine takeF (i := 15) (v := ?_) rfl (by kernel_rfl) (fun _ _ _ h => h) (Or.inl ⟨by kernel_rfl, ?_⟩) (by assumption) ?_; rotate_left; (focus (intro w _; go_simp; (try with_reducible rfl); done)); (try simp only [Act.put, List.getElem_toArray, List.getElem_cons_succ, List.getElem_cons_zero, List.setIfInBounds_toArray, List.set_cons_zero, List.set_cons_succ])
    refine doneS (by kernel_rfl) ?_ _
    go_wp2
    exact ⟨⟨k + 1, by omega, by go_num, by rw [HN1.out], HD3.out⟩, by simp [intOf]; omega⟩
  · have hkl : k = L.length := by omega
    subst hkl
    have d : decide ((L.length : Int) < L.length) = false := decide_eq_false (by omega)
    have dn : decide (L.length < L.length) = false := decide_eq_false (by omega)
    have HBB := Lib.hid (below_up HQ4.out.2 HB.out)
    rw [List.take_length, HCnt.out]
    rw [show ((1 : Nat) : Int) = 1 from rfl]
    have b1 : decide ((1 : Int) ≤ L.length) = true := decide_eq_true (by omega)
    have b2 : decide ((L.length : Int) ≤ m) = true := decide_eq_true (by omega)
    go_wp2
    go_ret
    exact ⟨ret_bool (by first | rfl | simp), HBB.out⟩
end Go.Proofs.Ytdomngpkahgoiaa.Ti
