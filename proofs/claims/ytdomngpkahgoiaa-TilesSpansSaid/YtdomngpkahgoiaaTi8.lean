/- The walk over tiles.Cover. -/
import Derived.Test.YtdomngpkahgoiaaTi6
import Derived.Test.YtdomngpkahgoiaaTi7
namespace Go.Proofs.Ytdomngpkahgoiaa.Ti
open Go.RowKit Rg St Zw
set_option linter.unusedVariables false
set_option linter.unusedSimpArgs false
theorem crow_inj {w : World} {v : Value} {L L' : List CeS} (h : CRow w v L) (h' : CRow w v L') : L = L' := by
  obtain ⟨A, cap, rfl, a1, a2⟩ := h
  have h1 : CRow w (.slice A L.length cap) L := ⟨A, cap, rfl, a1, a2⟩
  have hl := (SRd.len h').1
  apply List.ext_getElem hl
  intro k hk hk'
  obtain ⟨g, o, e, f0, f1, f2⟩ := c_at h1 hk
  obtain ⟨g', o', e', q0, q1, q2⟩ := c_at h' hk'
  rw [e] at e'; cases e'
  rw [f0] at q0; rw [f1] at q1; rw [f2] at q2
  injection q0 with q0; injection q1 with q1; injection q2 with q2
  injection q0 with _ q0; injection q1 with _ q1; injection q2 with _ q2
  cases hx : L[k]; cases hy : L'[k]
  rw [hx, hy] at q0 q1 q2
  simp only at q0 q1 q2
  have q0 := Int.ofNat.inj q0
  have q1 := Int.ofNat.inj q1
  subst q0 q1 q2
  rfl
open Classical in
noncomputable def msrOf (w : World) (v : Value) : Nat := if h : ∃ L, CRow w v L then msr h.choose else 0
theorem msrOf_eq {w : World} {v : Value} {L : List CeS} (h : CRow w v L) : msrOf w v = msr L := by
  have he : ∃ L, CRow w v L := ⟨L, h⟩
  unfold msrOf
  rw [dif_pos he, crow_inj he.choose_spec h]
theorem int_v {a b : Int} (h : a = b) : Value.int .i64 a = .int .i64 b := h ▸ rfl
set_option maxHeartbeats 8000000 in
set_option maxRecDepth 100000 in
theorem cover_ok (r : RcS) (most : Int) (w : World) (hr : r.fine) (hm : -9223372036854775808 ≤ most ∧ most ≤ 9223372036854775807) (m : Nat) (hmm : (m : Int) = min (max most 1) 256) :
    Calls Try.prog 11 #[rcv r, .int .i64 most] w fun e w' => ∃ v' L, e = .returned v' ∧ w'.ownsRow w.heap.size 32 3 v' L.length (L.flatMap CeS.cells) ∧ (if r.emp = true then L = [] else Reach r m L ∧ ∀ c ∈ L, cand r m L.length c = false) ∧ Below w.heap.size w w' := by
  have hm1 : 1 ≤ m := by omega
  have hm2 : m ≤ 256 := by omega
  have HE := Lib.hid (fun W => empty_ok r W)
  have HRo := Lib.hid (fun W => root_ok W)
  have HNx := Lib.hid (fun v l W hv hg hl => next_ok v l r m W hv hg hl (by omega))
  have HSp := Lib.hid (fun (c : CeS) (h : c.good) W => split_ok c r W h)
  have hq := alloc_at (w := w) (.cells #[.int .u32 (r.x0 : Nat), .int .u32 (r.y0 : Nat), .int .u32 (r.x1 : Nat), .int .u32 (r.y1 : Nat)] 24) rfl
  have hb := below_alloc1 w (.cells #[.int .u32 (r.x0 : Nat), .int .u32 (r.y0 : Nat), .int .u32 (r.x1 : Nat), .int .u32 (r.y1 : Nat)] 24)
  have H0 := Lib.hid (And.intro hq hb)
  have c0 := rcell hq
  clear hq hb
  obtain ⟨E, hE⟩ : ∃ b, r.emp = b := ⟨_, rfl⟩
  rw [hE] at HE ⊢
  have HInv := Lib.hid (fun (he : E = false) L (h : Reach r m L) => reach_inv hr (by rw [hE]; exact he) hm1 h)
  clear hE hr
  go_enter Try.func11, Try.ntmps11
  go_wp2_with fail
  (with_reducible refine (HE.out _).mono ?_); rintro e w1 ⟨rfl, hb⟩
  have HB1 := Lib.hid (below_up H0.out.2 hb)
  have HQ1 := Lib.hid (block_up H0.out.1 hb)
  clear hb c0
  cases E with
  | true =>
    go_wp2
    go_ret
    exact ⟨_, rfl, [], ⟨rfl, .inl ⟨rfl, rfl⟩⟩, rfl, HB1.out⟩
  | false =>
  go_upto_region 3 with (fail)
  go_cut [1] (fun v1 wx => v1 = .int .i64 (m : Nat) ∧ wx = w1)
  case first =>
    go_wp2
    all_goals (go_meet)
    all_goals exact ⟨int_v (by omega), rfl⟩
  case rest =>
  obtain ⟨rfl, hwc⟩ := hcut
  subst hwc
  clear hmm hm
  go_wp2_with fail
  (with_reducible refine (HRo.out _).mono ?_); rintro e w2 ⟨rfl, hb⟩
  have hro : cev CeS.root = .agg #[.int .u32 0, .int .u32 0, .int .i64 0] := rfl
  rw [hro]
  have HB2 := Lib.hid (below_up HB1.out hb)
  have HQ2 := Lib.hid (block_up HQ1.out hb)
  have hba := below_alloc1 w2 (.cells #[.int .u32 0, .int .u32 0, .int .i64 0] 32)
  have HB3 := Lib.hid (below_up HB2.out hba)
  have HQ3 := Lib.hid (block_up HQ2.out hba)
  have c0 := rcell HQ3.out
  have hsz2 : w.heap.size ≤ w2.heap.size := HB2.out.size
  have HO0 : Hid ((w2.alloc (.cells #[.int .u32 0, .int .u32 0, .int .i64 0] 32)).ownsRow w.heap.size 32 3 (.slice (some ⟨w2.heap.size, 0, none⟩) 1 1) [CeS.root].length ([CeS.root].flatMap CeS.cells)) := Lib.hid ⟨by simp [CeS.cells], .inr ⟨w2.heap.size, 1, _, rfl, hsz2, alloc_at _ rfl, Nat.le_refl _, by simp [maxLen], rfl, by simp [CeS.cells, CeS.root]⟩⟩
  have HN0 := Lib.hid (HNx.out _ [CeS.root] _ (srd_own CeS.cells_len (by decide) HO0.out) (fun c hc => by rw [List.mem_singleton.1 hc]; exact root_good) (by simp))
  clear hb hro hba hsz2
  go_wp2_with fail
  (with_reducible refine HN0.out.mono ?_); rintro e w3 ⟨j, rfl, hbest, hb⟩
  have HB4 := Lib.hid (below_up HB3.out hb)
  have HQ4 := Lib.hid (block_up HQ3.out hb)
  have HO1 := Lib.hid (own_below HO0.out hb)
  have HBe := Lib.hid hbest
  clear hb hbest c0
  go_wp2_with fail
  go_loopw [5, 6] (fun v5 v6 W => ∃ (L : List CeS) (j : Int), v6 = .int .i64 j ∧ Reach r m L ∧ BestIs r m L L.length j ∧ W.ownsRow w.heap.size 32 3 v5 L.length (L.flatMap CeS.cells) ∧ W.heap[w.heap.size]? = some (.cells #[.int .u32 (r.x0 : Nat), .int .u32 (r.y0 : Nat), .int .u32 (r.x1 : Nat), .int .u32 (r.y1 : Nat)] 24 (0, 0)) ∧ Below w.heap.size w W) (fun v5 _ W => msrOf W v5)
  case atStart => exact ⟨_, _, rfl, .root, HBe.out, HO1.out, HQ4.out, HB4.out⟩
  case round =>
  obtain ⟨L, j, rfl, hR, hbest, ho, hq, hb⟩ := hrel
  have HRe := Lib.hid hR
  have HO := Lib.hid ho
  have HQ := Lib.hid hq
  have HB := Lib.hid hb
  have hI := HInv.out trivial L hR
  have hM := msrOf_eq (srd_own CeS.cells_len (by decide) ho)
  have HM := Lib.hid hM
  obtain ⟨A, cap, rfl, hcap, hcm, _, _⟩ := own_rd ho
  have hrow : CRow wr (.slice A L.length cap) L := srd_own CeS.cells_len (by decide) ho
  clear hR ho hq hb hM
  rcases hbest with ⟨rfl, hno⟩ | ⟨i, hi, _, rfl, hc⟩
  · rw [List.take_length] at hno
    have HNo := Lib.hid hno
    clear hno hI hrow
    go_wp2
    go_ret
    exact ⟨_, rfl, L, HO.out, ⟨HRe.out, HNo.out⟩, HB.out⟩
  · obtain ⟨g, o, rfl, f0, f1, f2⟩ := c_at hrow hi
    have HRow : Hid (∀ W', Below wr.heap.size wr W' → CRow W' (.slice (some ⟨g, o, none⟩) L.length cap) L) := Lib.hid (fun W' hb => hrow.below hb)
    have HAt : Hid (∀ W', Below wr.heap.size wr W' → AtC W' g o i L[i]) := Lib.hid (fun W' hb => by
      obtain ⟨g1, o1, e, f⟩ := c_at (HRow.out W' hb) hi
      cases e; exact f)
    have hgd : L[i].good := (hI.all _ (List.getElem_mem hi)).1
    have HSx := Lib.hid (fun W => HSp.out L[i] hgd W)
    have hl := hI.le
    have hsp : L = L.take i ++ L[i] :: L.drop (i + 1) := by rw [List.getElem_cons_drop, List.take_append_drop]
    have hc' := hc
    have HStep : Hid (Reach r m (L.take i ++ split L[i] r ++ L.drop (i + 1)) ∧ msr (L.take i ++ split L[i] r ++ L.drop (i + 1)) < msr L) := Lib.hid (by
      have h1 := HRe.out
      generalize L[i] = x at *
      generalize L.take i = P at *
      generalize L.drop (i + 1) = Q at *
      subst hsp
      exact ⟨.step h1 hc', msr_step hgd hc'⟩)
    clear hsp hc' hc hI hrow
    have hd := below_drew1 (w := wr)
    have HD := Lib.hid hd
    obtain ⟨x, hx⟩ : ∃ x, L[i] = x := ⟨_, rfl⟩
    rw [hx] at HAt HSx HStep hgd f0 f1 f2
    clear hx
    have q0 := rcell (block_up HQ.out hd)
    have y0 := HAt.out _ hd
    obtain ⟨B, hB⟩ : ∃ B, i + 1 = B := ⟨_, rfl⟩
    have kw : IntKind.i64.wrap ((i : Int) + 1) = (B : Int) := by rw [IntWalk.i64_in _ (by omega)]; omega
    have b1 : (i : Int) ≤ cap := by omega
    have b2 : (B : Int) ≤ L.length := by omega
    have b3 : (i : Int) < L.length := by omega
    have b4 : decide ((i : Int) < L.length) = true := decide_eq_true b3
    have b5 : decide (i < L.length) = true := decide_eq_true hi
    have b6 : i ≤ cap := by omega
    have b7 : B ≤ L.length := by omega
    have HBB := Lib.hid hB
    clear f0 f1 f2 hB
    go_wp2_with fail
    go_upto_region 8 with (fail)
    refine beginS (S := fun W => (W.cell? ⟨g, o + i * 3, none⟩ = some (.int .u32 (x.x : Nat)) ∧ W.cell? ⟨g, o + i * 3 + 1, none⟩ = some (.int .u32 (x.y : Nat)) ∧ W.cell? ⟨g, o + i * 3 + 2, none⟩ = some (.int .i64 x.l)) ∧ (W.cell? ⟨w.heap.size, 0, none⟩ = some (.int .u32 (r.x0 : Nat)) ∧ W.cell? ⟨w.heap.size, 1, none⟩ = some (.int .u32 (r.y0 : Nat)) ∧ W.cell? ⟨w.heap.size, 2, none⟩ = some (.int .u32 (r.x1 : Nat)) ∧ W.cell? ⟨w.heap.size, 3, none⟩ = some (.int .u32 (r.y1 : Nat)))) [] (by kernel_rfl) ⟨y0, q0⟩ (fun hHeld0 => ?_)
    generalize (World.drew wr) = W0 at *
    clear y0 q0 hd
    refine takeF (i := 0) (v := ?_) rfl (by kernel_rfl) (fun _ _ _ h => h) (Or.inl ⟨by kernel_rfl, ?_⟩) (by assumption) ?_; rotate_left; (focus (intro w _; go_simp; (try with_reducible rfl); done)); (try simp only [Act.put, List.getElem_toArray, List.getElem_cons_succ, List.getElem_cons_zero, List.setIfInBounds_toArray, List.set_cons_zero, List.set_cons_succ])
    refine takeF (i := 1) (v := ?_) rfl (by kernel_rfl) (fun _ _ _ h => h) (Or.inl ⟨by kernel_rfl, ?_⟩) (by assumption) ?_; rotate_left; (focus (intro w _; go_simp; (try with_reducible rfl); done)); (try simp only [Act.put, List.getElem_toArray, List.getElem_cons_succ, List.getElem_cons_zero, List.setIfInBounds_toArray, List.set_cons_zero, List.set_cons_succ])
    refine takeF (i := 2) (v := ?_) rfl (by kernel_rfl) (fun _ _ _ h => h) (Or.inl ⟨by kernel_rfl, ?_⟩) (by assumption) ?_; rotate_left; (focus (intro w _; go_simp; (try with_reducible rfl); done)); (try simp only [Act.put, List.getElem_toArray, List.getElem_cons_succ, List.getElem_cons_zero, List.setIfInBounds_toArray, List.set_cons_zero, List.set_cons_succ])
    refine takeF (i := 3) (v := ?_) rfl (by kernel_rfl) (fun _ _ _ h => h) (Or.inl ⟨by kernel_rfl, ?_⟩) (by assumption) ?_; rotate_left; (focus (intro w _; go_simp; (try with_reducible rfl); done)); (try simp only [Act.put, List.getElem_toArray, List.getElem_cons_succ, List.getElem_cons_zero, List.setIfInBounds_toArray, List.set_cons_zero, List.set_cons_succ])
    refine takeF (i := 4) (v := ?_) rfl (by kernel_rfl) (fun _ _ _ h => h) (Or.inl ⟨by kernel_rfl, ?_⟩) (by assumption) ?_; rotate_left; (focus (intro w _; go_simp; (try with_reducible rfl); done)); (try simp only [Act.put, List.getElem_toArray, List.getElem_cons_succ, List.getElem_cons_zero, List.setIfInBounds_toArray, List.set_cons_zero, List.set_cons_succ])
    refine takeF (i := 5) (v := ?_) rfl (by kernel_rfl) (fun _ _ _ h => h) (Or.inl ⟨by kernel_rfl, ?_⟩) (by assumption) ?_; rotate_left; (focus (intro w _; go_simp; (try with_reducible rfl); done)); (try simp only [Act.put, List.getElem_toArray, List.getElem_cons_succ, List.getElem_cons_zero, List.setIfInBounds_toArray, List.set_cons_zero, List.set_cons_succ])
    refine takeH (i := 6) (v := ?_) rfl (by kernel_rfl) (fun _ _ _ h => h) (Or.inl ⟨by kernel_rfl, ?_⟩) (by assumption) ?_; rotate_left; (focus (intro w hSw; (try dsimp only at hSw); go_simp; (try with_reducible rfl); done)); (try simp only [Act.put, List.getElem_toArray, List.getElem_cons_succ, List.getElem_cons_zero, List.setIfInBounds_toArray, List.set_cons_zero, List.set_cons_succ])
    refine takeH (i := 7) (v := ?_) rfl (by kernel_rfl) (fun _ _ _ h => h) (Or.inl ⟨by kernel_rfl, ?_⟩) (by assumption) ?_; rotate_left; (focus (intro w hSw; (try dsimp only at hSw); go_simp; (try with_reducible rfl); done)); (try simp only [Act.put, List.getElem_toArray, List.getElem_cons_succ, List.getElem_cons_zero, List.setIfInBounds_toArray, List.set_cons_zero, List.set_cons_succ])
    refine takeF (i := 9) (v := ?_) rfl (by kernel_rfl) (fun _ _ _ h => h) (Or.inl ⟨by kernel_rfl, ?_⟩) (by assumption) ?_; rotate_left; (focus (intro w _; go_simp; (try with_reducible rfl); done)); (try simp only [Act.put, List.getElem_toArray, List.getElem_cons_succ, List.getElem_cons_zero, List.setIfInBounds_toArray, List.set_cons_zero, List.set_cons_succ])
    refine takeF (i := 10) (v := ?_) rfl (by kernel_rfl) (fun _ _ _ h => h) (Or.inl ⟨by kernel_rfl, ?_⟩) (by assumption) ?_; rotate_left; (focus (intro w _; go_simp; (try with_reducible rfl); done)); (try simp only [Act.put, List.getElem_toArray, List.getElem_cons_succ, List.getElem_cons_zero, List.setIfInBounds_toArray, List.set_cons_zero, List.set_cons_succ])
    refine takeF (i := 11) (v := ?_) rfl (by kernel_rfl) (fun _ _ _ h => h) (Or.inl ⟨by kernel_rfl, ?_⟩) (by assumption) ?_; rotate_left; (focus (intro w _; go_simp; (try with_reducible rfl); done)); (try simp only [Act.put, List.getElem_toArray, List.getElem_cons_succ, List.getElem_cons_zero, List.setIfInBounds_toArray, List.set_cons_zero, List.set_cons_succ])
    refine takeF (i := 12) (v := ?_) rfl (by kernel_rfl) (fun _ _ _ h => h) (Or.inl ⟨by kernel_rfl, ?_⟩) (by assumption) ?_; rotate_left; (focus (intro w _; go_simp; (try with_reducible rfl); done)); (try simp only [Act.put, List.getElem_toArray, List.getElem_cons_succ, List.getElem_cons_zero, List.setIfInBounds_toArray, List.set_cons_zero, List.set_cons_succ])
    clear hHeld0
    refine readyS (rs := [8]) (by kernel_rfl) (by simp) ?_
    refine ReadyS.consH rfl (fun K hK => ?_) ReadyS.nil
    (try simp only [List.getElem_toArray, List.getElem_cons_succ, List.getElem_cons_zero])
    go_simp
    (with_reducible refine (HSx.out _).mono ?_); rintro e W2 ⟨v2, rfl, hown, hb1⟩
    obtain ⟨A2, hA2⟩ : ∃ q : Option Addr, (if cap = B then some ⟨g, o, none⟩ else some ⟨g, o + B * 3, none⟩) = q := ⟨_, rfl⟩
    rw [hA2]
    have hbW2 := below_up HD.out hb1
    have HR1 : Hid (CRow W2 (.slice (some ⟨g, o, none⟩) i cap) (L.take i)) := Lib.hid ((HRow.out _ hbW2).take CeS.cells_len (by omega) cap b6)
    have HR2 : Hid (CRow W2 v2 (split x r)) := Lib.hid (srd_own CeS.cells_len (by decide) hown)
    have HR3 : Hid (CRow W2 (.slice A2 (L.length - B) (cap - B)) (L.drop B)) := Lib.hid (by
      subst hA2
      split
      · rename_i hcb
        have hLB : L.length = B := by omega
        rw [show L.drop B = [] from List.drop_eq_nil_of_le (by omega), show L.length - B = 0 by omega, show cap - B = 0 by omega]
        exact ⟨_, 0, rfl, Nat.le_refl _, Rd.nil _ _⟩
      · have hdr := (HRow.out _ hbW2).drop CeS.cells_len b7 (cap - B) (by omega)
        simp only [Option.map_some, add_plain] at hdr
        exact hdr)
    obtain ⟨A3, c3, rfl, _, _, _, _⟩ := own_rd hown
    have hba := below_alloc1 W2 (.cells #[.slice (some ⟨g, o, none⟩) i cap, .slice A3 (split x r).length c3, .slice A2 (L.length - B) (cap - B)] 27)
    have hat := alloc_at (w := W2) (.cells #[.slice (some ⟨g, o, none⟩) i cap, .slice A3 (split x r).length c3, .slice A2 (L.length - B) (cap - B)] 27) rfl
    have HSl : Hid (SlAt (W2.alloc (.cells #[.slice (some ⟨g, o, none⟩) i cap, .slice A3 (split x r).length c3, .slice A2 (L.length - B) (cap - B)] 27)) (.slice (some ⟨W2.heap.size, 0, none⟩) 3 3) [L.take i, split x r, L.drop B]) := Lib.hid ⟨_, 3, rfl, fun q hq => by
      match q, hq with
      | 0, _ => exact ⟨_, _, rfl, by rw [add_plain, cell_block hat]; rfl, HR1.out.below hba⟩
      | 1, _ => exact ⟨_, _, rfl, by rw [add_plain, cell_block hat]; rfl, HR2.out.below hba⟩
      | 2, _ => exact ⟨_, _, rfl, by rw [add_plain, cell_block hat]; rfl, HR3.out.below hba⟩⟩
    have HbW2 := Lib.hid hbW2
    have HbW3 := Lib.hid (below_up hbW2 hba)
    clear hA2 hb1 hown hba hat HR1 HR2 HR3 hbW2
    generalize hsl : (split x r).length = sl at *
    refine hK.out _ _ (⟨HAt.out _ HbW2.out, rcell (block_up HQ.out HbW2.out)⟩) (fun hHeld => ?_)
    clear hK K
    (try simp only [Act.put, List.getElem_toArray, List.getElem_cons_succ, List.getElem_cons_zero, List.setIfInBounds_toArray, List.set_cons_zero, List.set_cons_succ])
    clear hHeld
    refine readyS (rs := [13]) (by kernel_rfl) (by simp) ?_
    refine ReadyS.consH rfl (fun K hK => ?_) ReadyS.nil
    (try simp only [List.getElem_toArray, List.getElem_cons_succ, List.getElem_cons_zero])
    go_simp
    refine hK.out _ _ (⟨HAt.out _ HbW3.out, rcell (block_up HQ.out HbW3.out)⟩) (fun hHeld => ?_)
    clear hK K
    (try simp only [Act.put, List.getElem_toArray, List.getElem_cons_succ, List.getElem_cons_zero, List.setIfInBounds_toArray, List.set_cons_zero, List.set_cons_succ])
    have hs4 : sl ≤ 4 := by rw [← hsl]; unfold split; exact Nat.le_trans (List.length_filter_le _ _) (by simp)
    have HCc := Lib.hid (concat_ok _ _ _ HSl.out (by simp only [total, List.flatten_cons, List.flatten_nil, List.length_append, List.length_nil, List.length_take, List.length_drop, hsl]; omega) (by simp))
    generalize (World.alloc W2 _) = W3 at *
    generalize W2.heap.size = g3 at *
    clear hHeld hs4
    refine readyS (rs := [14]) (by kernel_rfl) (by simp) ?_
    refine ReadyS.consH rfl (fun K hK => ?_) ReadyS.nil
    (try simp only [List.getElem_toArray, List.getElem_cons_succ, List.getElem_cons_zero])
    go_simp
    (with_reducible refine HCc.out.mono ?_); rintro e W4 ⟨v4, rfl, hb4, hown⟩
    have hfl : [L.take i, split x r, L.drop B].flatten = L.take i ++ split x r ++ L.drop (i + 1) := by rw [HBB.out]; simp
    rw [hfl] at hown
    clear hfl
    have HbW4 := Lib.hid (below_up HbW3.out hb4)
    have hst := HStep.out
    have HL : Hid (L.take i ++ split x r ++ L.drop (i + 1) = L.take i ++ split x r ++ L.drop (i + 1)) := Lib.hid rfl
    have hszw := HB.out.size
    have hszr := HbW3.out.size
    have Ho4 := Lib.hid (own_lower hown (Nat.le_trans hszw hszr))
    generalize (L.take i ++ split x r ++ L.drop (i + 1)) = L' at *
    have hI' := HInv.out trivial L' hst.1
    have HN := Lib.hid (HNx.out v4 L' W4 (srd_own CeS.cells_len (by decide) Ho4.out) (fun c hc => (hI'.all c hc).1) (by have := hI'.le; omega))
    have HB5 := Lib.hid (below_up HB.out HbW4.out)
    have HQ5 := Lib.hid (block_up HQ.out HbW4.out)
    obtain ⟨A4, c4, rfl, _, _, _, _⟩ := own_rd hown
    clear hb4 hown hst hI' hszw hszr
    refine hK.out _ _ (⟨HAt.out _ HbW4.out, rcell HQ5.out⟩) (fun hHeld => ?_)
    clear hK K
    (try simp only [Act.put, List.getElem_toArray, List.getElem_cons_succ, List.getElem_cons_zero, List.setIfInBounds_toArray, List.set_cons_zero, List.set_cons_succ])
    refine takeF (i := 15) (v := ?_) rfl (by kernel_rfl) (fun _ _ _ h => h) (Or.inl ⟨by kernel_rfl, ?_⟩) (by assumption) ?_; rotate_left; (focus (intro w _; go_simp; (try with_reducible rfl); done)); (try simp only [Act.put, List.getElem_toArray, List.getElem_cons_succ, List.getElem_cons_zero, List.setIfInBounds_toArray, List.set_cons_zero, List.set_cons_succ])
    refine doneS (by kernel_rfl) ?_ _
    have c0 := rcell HQ5.out
    go_wp2_with fail
    (with_reducible refine HN.out.mono ?_); rintro e w5 ⟨j5, rfl, hbest5, hb5⟩
    have HB6 := Lib.hid (below_up HB5.out hb5)
    have HQ6 := Lib.hid (block_up HQ5.out hb5)
    have Ho5 := Lib.hid (own_below Ho4.out hb5)
    have HBe5 := Lib.hid hbest5
    have HMs : Hid (msrOf w5 (.slice A4 L'.length c4) < msr L) := Lib.hid (by rw [msrOf_eq (srd_own CeS.cells_len (by decide) Ho5.out)]; exact HStep.out.2)
    clear hb5 hbest5 c0
    go_wp2
    exact ⟨⟨L', j5, rfl, HStep.out.1, HBe5.out, Ho5.out, HQ6.out, HB6.out⟩, by rw [← HM.out] at HMs; exact HMs.out⟩
end Go.Proofs.Ytdomngpkahgoiaa.Ti
