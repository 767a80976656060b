/- The walks over croftlaw41.alive and croftlaw41.TilesWhole. -/
import Derived.Test.YtdomngpkahgoiaaTi12
import Derived.Test.YtdomngpkahgoiaaTi8
namespace Go.Proofs.Ytdomngpkahgoiaa.Ti
open Go.RowKit Rg St Zw
set_option linter.unusedVariables false
set_option linter.unusedSimpArgs false
theorem cover_cell (c : CeS) (hc : c.good) (m : Nat) (hm : 1 ≤ m ∧ m ≤ 256) (w : World) :
    Calls Try.prog 11 #[rcv c.rect, .int .i64 (m : Nat)] w fun e w' => ∃ g cap, e = .returned (.slice (some ⟨g, 0, none⟩) 1 cap) ∧ (CRow w' (.slice (some ⟨g, 0, none⟩) 1 cap) [c] ∧ 1 ≤ cap) ∧ Below w.heap.size w w' :=
  (cover_ok c.rect m w (rect_fine hc.1) (by omega) m (by omega)).mono fun e w' ⟨v', L, he, ho, hif, hb⟩ => by
    rw [rect_emp, if_neg (by decide)] at hif
    have hL := reach_done hc hm.1 hif.1 hif.2
    subst hL
    have hr := srd_own CeS.cells_len (by decide) ho
    obtain ⟨A, cap, rfl, hcap, _, _, hA⟩ := own_rd ho
    obtain ⟨g, o, rfl, _⟩ := c_at hr (k := 0) (by simp)
    obtain rfl : o = 0 := (hA _ rfl).1
    exact ⟨g, cap, he, ⟨hr, hcap⟩, hb⟩
theorem c_first {W : World} {g cap : Nat} {c : CeS} (h : CRow W (.slice (some ⟨g, 0, none⟩) 1 cap) [c]) : W.cell? ⟨g, 0, none⟩ = some (.int .u32 (c.x : Nat)) ∧ W.cell? ⟨g, 1, none⟩ = some (.int .u32 (c.y : Nat)) ∧ W.cell? ⟨g, 2, none⟩ = some (.int .i64 c.l) := by
  obtain ⟨g', o, e, f0, f1, f2⟩ := c_at h (k := 0) (by simp)
  cases e
  simpa using And.intro f0 (And.intro f1 f2)
theorem root_rect : CeS.root.rect = ⟨0, 0, 4294967295, 4294967295⟩ := by simp [CeS.rect, CeS.root, lv, cut, msk]
set_option maxHeartbeats 4000000 in
set_option maxRecDepth 100000 in
theorem alive_ok (w : World) : Calls Try.prog 9 #[] w fun e w' => e = .returned (.bool true) ∧ Below w.heap.size w w' := by
  have hc := fun W => cover_cell CeS.root root_good 9 (by omega) W
  rw [root_rect, show rcv ⟨0, 0, 4294967295, 4294967295⟩ = .agg #[.int .u32 0, .int .u32 0, .int .u32 4294967295, .int .u32 4294967295] from rfl, show Value.int .i64 ((9 : Nat) : Int) = .int .i64 9 from rfl] at hc
  have HC := Lib.hid hc
  have HR := Lib.hid (fun W => root_ok W)
  have HSp := Lib.hid (fun v W hv => spans_ok v [CeS.root] W hv (fun c hc => by rw [List.mem_singleton.1 hc]; exact root_good.1) (by decide))
  have hl1 : (spansOf [CeS.root]).length = 1 := by
    have h := ordL_len [CeS.root]
    unfold spansOf
    match ordL [CeS.root], h with
    | [x], _ => rfl
  have HL1 := Lib.hid hl1
  have heq := fun W => eqlC CeS.root CeS.root W
  rw [decide_eq_true rfl, show cev CeS.root = .agg #[.int .u32 0, .int .u32 0, .int .i64 0] from rfl] at heq
  have hro : cev CeS.root = .agg #[.int .u32 0, .int .u32 0, .int .i64 0] := rfl
  rw [hro] at HR
  clear hc hl1 hro
  go_enter Try.func9, Try.ntmps9
  go_wp2_with fail
  (with_reducible refine (HC.out _).mono ?_); rintro e w1 ⟨g, cap, rfl, ⟨hr, hcap⟩, hb⟩
  have HRow := Lib.hid hr
  have HB := Lib.hid hb
  clear hr hb
  go_wp2_with fail
  have hd := below_drew1 (w := w1)
  have HD := Lib.hid hd
  have z0 := c_first (HRow.out.below hd)
  rw [show ((CeS.root.x : Nat) : Int) = 0 from rfl, show ((CeS.root.y : Nat) : Int) = 0 from rfl, show CeS.root.l = 0 from rfl] at z0
  refine beginS (S := fun W => W.cell? ⟨g, 0, none⟩ = some (.int .u32 0) ∧ W.cell? ⟨g, 1, none⟩ = some (.int .u32 0) ∧ W.cell? ⟨g, 2, none⟩ = some (.int .i64 0)) [] (by kernel_rfl) z0 (fun hHeld0 => ?_)
  generalize (World.drew w1) = W0 at *
  clear hd z0
  refine takeF (i := 0) (v := ?_) rfl (by kernel_rfl) (fun _ _ _ h => h) (Or.inl ⟨by kernel_rfl, ?_⟩) (by assumption) ?_; rotate_left; (focus (intro w _; go_simp; (try with_reducible rfl); done)); (try simp only [Act.put, List.getElem_toArray, List.getElem_cons_succ, List.getElem_cons_zero, List.setIfInBounds_toArray, List.set_cons_zero, List.set_cons_succ])
  refine takeF (i := 1) (v := ?_) rfl (by kernel_rfl) (fun _ _ _ h => h) (Or.inl ⟨by kernel_rfl, ?_⟩) (by assumption) ?_; rotate_left; (focus (intro w _; go_simp; (try with_reducible rfl); done)); (try simp only [Act.put, List.getElem_toArray, List.getElem_cons_succ, List.getElem_cons_zero, List.setIfInBounds_toArray, List.set_cons_zero, List.set_cons_succ])
  refine takeF (i := 2) (v := ?_) rfl (by kernel_rfl) (fun _ _ _ h => h) (Or.inl ⟨by kernel_rfl, ?_⟩) (by assumption) ?_; rotate_left; (focus (intro w _; go_simp; (try with_reducible rfl); done)); (try simp only [Act.put, List.getElem_toArray, List.getElem_cons_succ, List.getElem_cons_zero, List.setIfInBounds_toArray, List.set_cons_zero, List.set_cons_succ])
  refine takeF (i := 3) (v := ?_) rfl (by kernel_rfl) (fun _ _ _ h => h) (Or.inl ⟨by kernel_rfl, ?_⟩) (by assumption) ?_; rotate_left; (focus (intro w _; go_simp; (try with_reducible rfl); done)); (try simp only [Act.put, List.getElem_toArray, List.getElem_cons_succ, List.getElem_cons_zero, List.setIfInBounds_toArray, List.set_cons_zero, List.set_cons_succ])
  refine takeF (i := 4) (v := ?_) rfl (by kernel_rfl) (fun _ _ _ h => h) (Or.inl ⟨by kernel_rfl, ?_⟩) (by assumption) ?_; rotate_left; (focus (intro w _; go_simp; (try with_reducible rfl); done)); (try simp only [Act.put, List.getElem_toArray, List.getElem_cons_succ, List.getElem_cons_zero, List.setIfInBounds_toArray, List.set_cons_zero, List.set_cons_succ])
  refine takeF (i := 5) (v := ?_) rfl (by kernel_rfl) (fun _ _ _ h => h) (Or.inl ⟨by kernel_rfl, ?_⟩) (by assumption) ?_; rotate_left; (focus (intro w _; go_simp; (try with_reducible rfl); done)); (try simp only [Act.put, List.getElem_toArray, List.getElem_cons_succ, List.getElem_cons_zero, List.setIfInBounds_toArray, List.set_cons_zero, List.set_cons_succ])
  refine takeH (i := 6) (v := ?_) rfl (by kernel_rfl) (fun _ _ _ h => h) (Or.inl ⟨by kernel_rfl, ?_⟩) (by assumption) ?_; rotate_left; (focus (intro w hSw; (try dsimp only at hSw); go_simp; (try with_reducible rfl); done)); (try simp only [Act.put, List.getElem_toArray, List.getElem_cons_succ, List.getElem_cons_zero, List.setIfInBounds_toArray, List.set_cons_zero, List.set_cons_succ])
  clear hHeld0
  refine readyS (rs := [7]) (by kernel_rfl) (by simp) ?_
  refine ReadyS.consH rfl (fun K hK => ?_) ReadyS.nil
  (try simp only [List.getElem_toArray, List.getElem_cons_succ, List.getElem_cons_zero])
  go_simp
  (with_reducible refine (HR.out _).mono ?_); rintro e W2 ⟨rfl, hb1⟩
  have HD1 := Lib.hid (below_up HD.out hb1); clear hb1
  have z0 := c_first (HRow.out.below HD1.out)
  rw [show ((CeS.root.x : Nat) : Int) = 0 from rfl, show ((CeS.root.y : Nat) : Int) = 0 from rfl, show CeS.root.l = 0 from rfl] at z0
  refine hK.out _ _ (z0) (fun hHeld => ?_)
  clear hK K
  (try simp only [Act.put, List.getElem_toArray, List.getElem_cons_succ, List.getElem_cons_zero, List.setIfInBounds_toArray, List.set_cons_zero, List.set_cons_succ])
  refine takeF (i := 8) (v := ?_) rfl (by kernel_rfl) (fun _ _ _ h => h) (Or.inl ⟨by kernel_rfl, ?_⟩) (by assumption) ?_; rotate_left; (focus (intro w _; go_simp; (try with_reducible rfl); done)); (try simp only [Act.put, List.getElem_toArray, List.getElem_cons_succ, List.getElem_cons_zero, List.setIfInBounds_toArray, List.set_cons_zero, List.set_cons_succ])
  refine takeF (i := 9) (v := ?_) rfl (by kernel_rfl) (fun _ _ _ h => h) (Or.inl ⟨by kernel_rfl, ?_⟩) (by assumption) ?_; rotate_left; (focus (intro w _; go_simp; (try with_reducible rfl); done)); (try simp only [Act.put, List.getElem_toArray, List.getElem_cons_succ, List.getElem_cons_zero, List.setIfInBounds_toArray, List.set_cons_zero, List.set_cons_succ])
  refine takeF (i := 10) (v := ?_) rfl (by kernel_rfl) (fun _ _ _ h => h) (Or.inl ⟨by kernel_rfl, ?_⟩) (by assumption) ?_; rotate_left; (focus (intro w _; go_simp; (try with_reducible rfl); done)); (try simp only [Act.put, List.getElem_toArray, List.getElem_cons_succ, List.getElem_cons_zero, List.setIfInBounds_toArray, List.set_cons_zero, List.set_cons_succ])
  refine takeF (i := 11) (v := ?_) rfl (by kernel_rfl) (fun _ _ _ h => h) (Or.inl ⟨by kernel_rfl, ?_⟩) (by assumption) ?_; rotate_left; (focus (intro w _; go_simp; (try with_reducible rfl); done)); (try simp only [Act.put, List.getElem_toArray, List.getElem_cons_succ, List.getElem_cons_zero, List.setIfInBounds_toArray, List.set_cons_zero, List.set_cons_succ])
  clear hHeld z0
  refine readyS (rs := [12]) (by kernel_rfl) (by simp) ?_
  refine ReadyS.consH rfl (fun K hK => ?_) ReadyS.nil
  (try simp only [List.getElem_toArray, List.getElem_cons_succ, List.getElem_cons_zero])
  go_simp
  (with_reducible refine (HSp.out _ _ (HRow.out.below HD1.out)).mono ?_); rintro e W3 ⟨v3, rfl, ho3, hb1⟩
  have HD2 := Lib.hid (below_up HD1.out hb1); clear hb1
  have z0 := c_first (HRow.out.below HD2.out)
  rw [show ((CeS.root.x : Nat) : Int) = 0 from rfl, show ((CeS.root.y : Nat) : Int) = 0 from rfl, show CeS.root.l = 0 from rfl] at z0
  obtain ⟨A3, c3, rfl, _, _, _, _⟩ := own_rd ho3
  rw [HL1.out]
  clear ho3
  refine hK.out _ _ (z0) (fun hHeld => ?_)
  clear hK K
  (try simp only [Act.put, List.getElem_toArray, List.getElem_cons_succ, List.getElem_cons_zero, List.setIfInBounds_toArray, List.set_cons_zero, List.set_cons_succ])
  refine takeF (i := 13) (v := ?_) rfl (by kernel_rfl) (fun _ _ _ h => h) (Or.inl ⟨by kernel_rfl, ?_⟩) (by assumption) ?_; rotate_left; (focus (intro w _; go_simp; (try with_reducible rfl); done)); (try simp only [Act.put, List.getElem_toArray, List.getElem_cons_succ, List.getElem_cons_zero, List.setIfInBounds_toArray, List.set_cons_zero, List.set_cons_succ])
  refine takeF (i := 14) (v := ?_) rfl (by kernel_rfl) (fun _ _ _ h => h) (Or.inl ⟨by kernel_rfl, ?_⟩) (by assumption) ?_; rotate_left; (focus (intro w _; go_simp; (try with_reducible rfl); done)); (try simp only [Act.put, List.getElem_toArray, List.getElem_cons_succ, List.getElem_cons_zero, List.setIfInBounds_toArray, List.set_cons_zero, List.set_cons_succ])
  refine takeF (i := 15) (v := ?_) rfl (by kernel_rfl) (fun _ _ _ h => h) (Or.inl ⟨by kernel_rfl, ?_⟩) (by assumption) ?_; rotate_left; (focus (intro w _; go_simp; (try with_reducible rfl); done)); (try simp only [Act.put, List.getElem_toArray, List.getElem_cons_succ, List.getElem_cons_zero, List.setIfInBounds_toArray, List.set_cons_zero, List.set_cons_succ])
  refine takeF (i := 16) (v := ?_) rfl (by kernel_rfl) (fun _ _ _ h => h) (Or.inl ⟨by kernel_rfl, ?_⟩) (by assumption) ?_; rotate_left; (focus (intro w _; go_simp; (try with_reducible rfl); done)); (try simp only [Act.put, List.getElem_toArray, List.getElem_cons_succ, List.getElem_cons_zero, List.setIfInBounds_toArray, List.set_cons_zero, List.set_cons_succ])
  refine doneS (by kernel_rfl) ?_ _
  go_wp2
  go_ret
  exact ⟨rfl, below_up HB.out HD2.out⟩
set_option maxHeartbeats 4000000 in
set_option maxRecDepth 100000 in
theorem whole_walk (c : CeS) (most : Int) (w : World) (hc : c.fine) (hm : -9223372036854775808 ≤ most ∧ most ≤ 9223372036854775807) :
    Calls Try.prog 4 #[cev c, .int .i64 most] w fun e w' => e = .returned (.bool true) ∧ Below w.heap.size w w' := by
  have HAl := Lib.hid (fun W => alive_ok W)
  have HA := Lib.hid (fun W => atc_ok c W hc)
  have hg := fix_good hc
  have HR := Lib.hid (fun W => rectc_ok c.fix W hg.1)
  have HN := Lib.hid (fun W => near_ok most W hm)
  have HC := Lib.hid (fun m hm W => cover_cell c.fix hg m hm W)
  have heq := fun W => eqlC c.fix c.fix W
  rw [decide_eq_true rfl] at heq
  have hq := alloc_at (w := w) (.cells #[.int .u32 (c.x : Nat), .int .u32 (c.y : Nat), .int .i64 c.l] 32) rfl
  have hb := below_alloc1 w (.cells #[.int .u32 (c.x : Nat), .int .u32 (c.y : Nat), .int .i64 c.l] 32)
  have HQ := Lib.hid (And.intro hq hb)
  generalize c.fix = d at *
  clear hq hb hc hg hm
  go_enter Try.func4, Try.ntmps4
  go_wp2_with fail
  generalize (w.alloc _) = w0 at *
  (with_reducible refine (HAl.out _).mono ?_); rintro e w1 ⟨rfl, hb⟩
  have HQ1 := Lib.hid (And.intro (block_up HQ.out.1 hb) (below_up HQ.out.2 hb)); clear hb
  have q0 := ccell HQ1.out.1
  go_wp2_with fail
  (with_reducible refine (HA.out _).mono ?_); rintro e w2 ⟨rfl, hb⟩
  have hq2 := block_up HQ1.out.1 hb
  have HB2 := Lib.hid (below_up HQ1.out.2 hb); clear hb
  have q0 := ccell hq2
  have fz := free_block hq2
  have hs3 := blk_set (blk_set (blk_set hq2 0 (.int .u32 (d.x : Nat))) 1 (.int .u32 (d.y : Nat))) 2 (.int .i64 d.l)
  have hb3 := ((HB2.out.setCell (p := ⟨w.heap.size, 0, none⟩) (Nat.le_refl _) (.int .u32 (d.x : Nat))).setCell (p := ⟨w.heap.size, 1, none⟩) (Nat.le_refl _) (.int .u32 (d.y : Nat))).setCell (p := ⟨w.heap.size, 2, none⟩) (Nat.le_refl _) (.int .i64 d.l)
  have HQ3 : Hid (_ ∧ _) := Lib.hid (And.intro (show _ = some (Obj.cells #[.int .u32 (d.x : Nat), .int .u32 (d.y : Nat), .int .i64 d.l] 32 (0, 0)) from hs3) hb3)
  clear hs3 hb3
  go_upto_region 4 with (fail)
  generalize (World.setCell _ _ _) = w3 at *
  clear q0 fz hq2 HQ1 HQ HB2
  have q0 := ccell HQ3.out.1
  go_wp2_with fail
  (with_reducible refine (HR.out _).mono ?_); rintro e w4 ⟨rfl, hb⟩
  have HQ4 := Lib.hid (And.intro (block_up HQ3.out.1 hb) (below_up HQ3.out.2 hb)); clear hb q0
  go_wp2_with fail
  (with_reducible refine (HN.out _).mono ?_); rintro e w5 ⟨k, rfl, hk, hw5⟩
  subst hw5
  have HC2 := Lib.hid (fun W => HC.out k (by omega) W)
  clear hk
  go_wp2_with fail
  (with_reducible refine (HC2.out _).mono ?_); rintro e w6 ⟨g, cap, rfl, ⟨hr, hcap⟩, hb⟩
  have HRow := Lib.hid hr
  have HQ6 := Lib.hid (And.intro (block_up HQ4.out.1 hb) (below_up HQ4.out.2 hb))
  clear hr hb
  go_wp2_with fail
  have hd := below_drew1 (w := w6)
  have HD := Lib.hid hd
  have z0 := c_first (HRow.out.below hd)
  have z1 := ccell (block_up HQ6.out.1 hd)
  refine beginS (S := fun W => (W.cell? ⟨g, 0, none⟩ = some (.int .u32 (d.x : Nat)) ∧ W.cell? ⟨g, 1, none⟩ = some (.int .u32 (d.y : Nat)) ∧ W.cell? ⟨g, 2, none⟩ = some (.int .i64 d.l)) ∧ (W.cell? ⟨w.heap.size, 0, none⟩ = some (.int .u32 (d.x : Nat)) ∧ W.cell? ⟨w.heap.size, 1, none⟩ = some (.int .u32 (d.y : Nat)) ∧ W.cell? ⟨w.heap.size, 2, none⟩ = some (.int .i64 d.l))) [] (by kernel_rfl) ⟨z0, z1⟩ (fun hHeld0 => ?_)
  generalize (World.drew w6) = W0 at *
  clear hd z0 z1
  refine takeF (i := 0) (v := ?_) rfl (by kernel_rfl) (fun _ _ _ h => h) (Or.inl ⟨by kernel_rfl, ?_⟩) (by assumption) ?_; rotate_left; (focus (intro w _; go_simp; (try with_reducible rfl); done)); (try simp only [Act.put, List.getElem_toArray, List.getElem_cons_succ, List.getElem_cons_zero, List.setIfInBounds_toArray, List.set_cons_zero, List.set_cons_succ])
  refine takeF (i := 1) (v := ?_) rfl (by kernel_rfl) (fun _ _ _ h => h) (Or.inl ⟨by kernel_rfl, ?_⟩) (by assumption) ?_; rotate_left; (focus (intro w _; go_simp; (try with_reducible rfl); done)); (try simp only [Act.put, List.getElem_toArray, List.getElem_cons_succ, List.getElem_cons_zero, List.setIfInBounds_toArray, List.set_cons_zero, List.set_cons_succ])
  refine takeF (i := 2) (v := ?_) rfl (by kernel_rfl) (fun _ _ _ h => h) (Or.inl ⟨by kernel_rfl, ?_⟩) (by assumption) ?_; rotate_left; (focus (intro w _; go_simp; (try with_reducible rfl); done)); (try simp only [Act.put, List.getElem_toArray, List.getElem_cons_succ, List.getElem_cons_zero, List.setIfInBounds_toArray, List.set_cons_zero, List.set_cons_succ])
  refine takeF (i := 3) (v := ?_) rfl (by kernel_rfl) (fun _ _ _ h => h) (Or.inl ⟨by kernel_rfl, ?_⟩) (by assumption) ?_; rotate_left; (focus (intro w _; go_simp; (try with_reducible rfl); done)); (try simp only [Act.put, List.getElem_toArray, List.getElem_cons_succ, List.getElem_cons_zero, List.setIfInBounds_toArray, List.set_cons_zero, List.set_cons_succ])
  refine takeF (i := 4) (v := ?_) rfl (by kernel_rfl) (fun _ _ _ h => h) (Or.inl ⟨by kernel_rfl, ?_⟩) (by assumption) ?_; rotate_left; (focus (intro w _; go_simp; (try with_reducible rfl); done)); (try simp only [Act.put, List.getElem_toArray, List.getElem_cons_succ, List.getElem_cons_zero, List.setIfInBounds_toArray, List.set_cons_zero, List.set_cons_succ])
  refine takeF (i := 5) (v := ?_) rfl (by kernel_rfl) (fun _ _ _ h => h) (Or.inl ⟨by kernel_rfl, ?_⟩) (by assumption) ?_; rotate_left; (focus (intro w _; go_simp; (try with_reducible rfl); done)); (try simp only [Act.put, List.getElem_toArray, List.getElem_cons_succ, List.getElem_cons_zero, List.setIfInBounds_toArray, List.set_cons_zero, List.set_cons_succ])
  refine takeH (i := 6) (v := ?_) rfl (by kernel_rfl) (fun _ _ _ h => h) (Or.inl ⟨by kernel_rfl, ?_⟩) (by assumption) ?_; rotate_left; (focus (intro w hSw; (try dsimp only at hSw); go_simp; (try with_reducible rfl); done)); (try simp only [Act.put, List.getElem_toArray, List.getElem_cons_succ, List.getElem_cons_zero, List.setIfInBounds_toArray, List.set_cons_zero, List.set_cons_succ])
  refine takeH (i := 7) (v := ?_) rfl (by kernel_rfl) (fun _ _ _ h => h) (Or.inl ⟨by kernel_rfl, ?_⟩) (by assumption) ?_; rotate_left; (focus (intro w hSw; (try dsimp only at hSw); go_simp; (try with_reducible rfl); done)); (try simp only [Act.put, List.getElem_toArray, List.getElem_cons_succ, List.getElem_cons_zero, List.setIfInBounds_toArray, List.set_cons_zero, List.set_cons_succ])
  refine takeF (i := 8) (v := ?_) rfl (by kernel_rfl) (fun _ _ _ h => h) (Or.inl ⟨by kernel_rfl, ?_⟩) (by assumption) ?_; rotate_left; (focus (intro w _; go_simp; (try with_reducible rfl); done)); (try simp only [Act.put, List.getElem_toArray, List.getElem_cons_succ, List.getElem_cons_zero, List.setIfInBounds_toArray, List.set_cons_zero, List.set_cons_succ])
  refine takeF (i := 9) (v := ?_) rfl (by kernel_rfl) (fun _ _ _ h => h) (Or.inl ⟨by kernel_rfl, ?_⟩) (by assumption) ?_; rotate_left; (focus (intro w _; go_simp; (try with_reducible rfl); done)); (try simp only [Act.put, List.getElem_toArray, List.getElem_cons_succ, List.getElem_cons_zero, List.setIfInBounds_toArray, List.set_cons_zero, List.set_cons_succ])
  refine takeF (i := 10) (v := ?_) rfl (by kernel_rfl) (fun _ _ _ h => h) (Or.inl ⟨by kernel_rfl, ?_⟩) (by assumption) ?_; rotate_left; (focus (intro w _; go_simp; (try with_reducible rfl); done)); (try simp only [Act.put, List.getElem_toArray, List.getElem_cons_succ, List.getElem_cons_zero, List.setIfInBounds_toArray, List.set_cons_zero, List.set_cons_succ])
  refine doneS (by kernel_rfl) ?_ _
  go_wp2
  go_ret
  exact ⟨rfl, below_up HQ6.out.2 HD.out⟩
end Go.Proofs.Ytdomngpkahgoiaa.Ti
