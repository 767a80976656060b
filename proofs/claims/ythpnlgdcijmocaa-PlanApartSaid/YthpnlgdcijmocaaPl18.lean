/- The walk over PlanApart. -/
import Derived.Test.YthpnlgdcijmocaaPl17
namespace Go.Proofs.Ythpnlgdcijmocaa.Pl
open Go.RowKit Rg
set_option linter.unusedVariables false
set_option linter.unusedSimpArgs false
set_option maxHeartbeats 8000000 in
set_option maxRecDepth 100000 in
theorem papart_walk (size off : Nat) (vl : Value) (l : List EntS) (w : World) (hs : size < 256) (ho : off < 256) (hv : ERd w vl l) (hl : l.length ≤ 140737488355328) :
    Calls Try.prog 3 #[.int .u8 (size : Nat), .int .u8 (off : Nat), vl] w fun e w' => e = .returned (.bool true) ∧ Below w.heap.size w w' := by
  have HV0 := Lib.hid hv
  have HAl := fun W => alive_ok W
  obtain ⟨Al, cl, rfl, hcl, _⟩ := hv
  obtain ⟨S, hS⟩ : ∃ S, 4 + size % 8 = S := ⟨_, rfl⟩
  obtain ⟨O, hO⟩ : ∃ O, off % S = O := ⟨_, rfl⟩
  have hS4 : 4 ≤ S := by omega
  have hS11 : S ≤ 11 := by omega
  have hOS : O < S := by rw [← hO]; exact Nat.mod_lt _ (by omega)
  have k1 : IntKind.i64.wrap (size : Int) = (size : Int) := by rw [IntWalk.i64_in _ (by omega)]
  have k2 : Int.tmod (size : Int) 8 = ((size % 8 : Nat) : Int) := by rw [Int.tmod_eq_emod_of_nonneg (by omega)]; omega
  have k3 : 4 + (size : Int) % 8 = (S : Int) := by omega
  have k4 : IntKind.i64.wrap (off : Int) = (off : Int) := by rw [IntWalk.i64_in _ (by omega)]
  have k5 : Int.tmod (off : Int) (S : Int) = (O : Int) := by rw [Int.tmod_eq_emod_of_nonneg (by omega), ← hO]; omega
  have k6 : IntKind.i64.wrap (O : Int) = (O : Int) := by rw [IntWalk.i64_in _ (by omega)]
  have kS0 : ¬ (S : Int) = 0 := by omega
  have kS0n : ¬ S = 0 := by omega
  go_enter Try.func3, Try.ntmps3
  go_wp2_with fail
  (with_reducible refine (HAl _).mono ?_); rintro e w1 ⟨rfl, hb⟩
  have HA1 := Lib.hid hb
  clear hb HAl
  have hbg := below_alloc1 w1 (.cells #[.int .i64 12, .int .i64 (S : Int)] 25)
  have HG2 := Lib.hid (alloc_at (w := w1) (.cells #[.int .i64 12, .int .i64 (S : Int)] 25) rfl)
  have HA2 := Lib.hid (below_up HA1.out hbg)
  clear hbg
  go_upto_if 29 with (fail)
  generalize w1.heap.size = bg at *
  generalize World.alloc w1 _ = w2 at *
  obtain ⟨L, hL⟩ : ∃ L, l.take 60 = L := ⟨_, rfl⟩
  have HV : Hid (ERd w (.slice Al L.length cl) L ∧ L.length ≤ 60) := Lib.hid (by
    rw [← hL]
    by_cases h : 60 < l.length
    · rw [show (l.take 60).length = 60 by simp; omega]
      exact ⟨SRd.take HV0.out EntS.cells_len (by omega) cl (by omega), Nat.le_refl _⟩
    · rw [List.take_of_length_le (by omega)]
      exact ⟨HV0.out, by omega⟩)
  go_cut [2] from 30 to 31 (fun v3 wx => v3 = .slice Al L.length cl ∧ wx = w2)
  case first =>
    by_cases h : 60 < l.length
    · have d1 : decide (60 < l.length) = true := decide_eq_true h
      have d2 : decide ((l.length : Int) > 60) = true := decide_eq_true (by omega)
      have hc : 60 ≤ cl := by omega
      have e : L.length = 60 := by rw [← hL]; simp; omega
      go_wp2
      go_meet
      case rel => exact ⟨by rw [e], rfl⟩
    · have d1 : decide (60 < l.length) = false := decide_eq_false h
      have d2 : decide ((l.length : Int) > 60) = false := decide_eq_false (by omega)
      have e : L.length = l.length := by rw [← hL]; simp; omega
      go_wp2
      go_meet
      case rel => exact ⟨by rw [e], rfl⟩
  case rest =>
  obtain ⟨rfl, hw⟩ := hcut
  replace hw := hw.symm; subst hw
  clear hL HV0 hl hcl
  have hL60 := HV.out.2
  go_upto_region 6 with (fail)
  go_cut [8, 9, 10, 11] from 32 to 46 (fun v8 v9 v10 v11 wx => ApR ⟨12, S⟩ ⟨3, O, 7⟩ [0, 1, 2, 4, 5, 6, 8, 9, 10, 11] L w2.heap.size w2 v8 v9 v10 v11 wx)
  case first =>
    have HQ : Hid (∀ W', Below w2.heap.size w2 W' → (W'.cell? ⟨bg, 0, none⟩ = some (.int .i64 12) ∧ W'.cell? ⟨bg, 1, none⟩ = some (.int .i64 (S : Int)))) := Lib.hid (fun W' hb => cells2p (block_up HG2.out hb))
    have HD := Lib.hid (below_drew1 (w := w2))
    refine beginS (S := fun W' => (W'.cell? ⟨bg, 0, none⟩ = some (.int .i64 12) ∧ W'.cell? ⟨bg, 1, none⟩ = some (.int .i64 (S : Int)))) [17] (by kernel_rfl) (HQ.out _ HD.out) (fun hHeld0 => ?_)
    generalize (World.drew w2) = W0 at *
    refine takeH (i := 0) (v := ?_) rfl (by kernel_rfl) (fun _ _ _ h => h) (Or.inl ⟨by kernel_rfl, ?_⟩) (by assumption) ?_; rotate_left; (focus (intro w hSw; (try dsimp only at hSw); go_simp; (try with_reducible rfl); done)); (try simp only [Act.put, List.getElem_toArray, List.getElem_cons_succ, List.getElem_cons_zero, List.setIfInBounds_toArray, List.set_cons_zero, List.set_cons_succ])
    refine takeF (i := 1) (v := ?_) rfl (by kernel_rfl) (fun _ _ _ h => h) (Or.inl ⟨by kernel_rfl, ?_⟩) (by assumption) ?_; rotate_left; (focus (intro w _; go_simp; (try with_reducible rfl); done)); (try simp only [Act.put, List.getElem_toArray, List.getElem_cons_succ, List.getElem_cons_zero, List.setIfInBounds_toArray, List.set_cons_zero, List.set_cons_succ])
    refine takeF (i := 2) (v := ?_) rfl (by kernel_rfl) (fun _ _ _ h => h) (Or.inl ⟨by kernel_rfl, ?_⟩) (by assumption) ?_; rotate_left; (focus (intro w _; go_simp; (try with_reducible rfl); done)); (try simp only [Act.put, List.getElem_toArray, List.getElem_cons_succ, List.getElem_cons_zero, List.setIfInBounds_toArray, List.set_cons_zero, List.set_cons_succ])
    refine takeF (i := 3) (v := ?_) rfl (by kernel_rfl) (fun _ _ _ h => h) (Or.inl ⟨by kernel_rfl, ?_⟩) (by assumption) ?_; rotate_left; (focus (intro w _; go_simp; (try with_reducible rfl); done)); (try simp only [Act.put, List.getElem_toArray, List.getElem_cons_succ, List.getElem_cons_zero, List.setIfInBounds_toArray, List.set_cons_zero, List.set_cons_succ])
    refine takeH (i := 4) (v := ?_) rfl (by kernel_rfl) (fun _ _ _ h => h) (Or.inl ⟨by kernel_rfl, ?_⟩) (by assumption) ?_; rotate_left; (focus (intro w hSw; (try dsimp only at hSw); go_simp; (try with_reducible rfl); done)); (try simp only [Act.put, List.getElem_toArray, List.getElem_cons_succ, List.getElem_cons_zero, List.setIfInBounds_toArray, List.set_cons_zero, List.set_cons_succ])
    refine takeF (i := 5) (v := ?_) rfl (by kernel_rfl) (fun _ _ _ h => h) (Or.inl ⟨by kernel_rfl, ?_⟩) (by assumption) ?_; rotate_left; (focus (intro w _; go_simp; (try with_reducible rfl); done)); (try simp only [Act.put, List.getElem_toArray, List.getElem_cons_succ, List.getElem_cons_zero, List.setIfInBounds_toArray, List.set_cons_zero, List.set_cons_succ])
    refine takeF (i := 6) (v := ?_) rfl (by kernel_rfl) (fun _ _ _ h => h) (Or.inl ⟨by kernel_rfl, ?_⟩) (by assumption) ?_; rotate_left; (focus (intro w _; go_simp; (try with_reducible rfl); done)); (try simp only [Act.put, List.getElem_toArray, List.getElem_cons_succ, List.getElem_cons_zero, List.setIfInBounds_toArray, List.set_cons_zero, List.set_cons_succ])
    refine takeF (i := 8) (v := ?_) rfl (by kernel_rfl) (fun _ _ _ h => h) (Or.inl ⟨by kernel_rfl, ?_⟩) (by assumption) ?_; rotate_left; (focus (intro w _; go_simp; (try with_reducible rfl); done)); (try simp only [Act.put, List.getElem_toArray, List.getElem_cons_succ, List.getElem_cons_zero, List.setIfInBounds_toArray, List.set_cons_zero, List.set_cons_succ])
    clear hHeld0
    refine readyS (rs := [7, 15]) (by kernel_rfl) (by simp) ?_
    refine ReadyS.consH rfl (fun K hK => ?_) (ReadyS.consH rfl (fun K hK => ?_) ReadyS.nil)
    (try simp only [List.getElem_toArray, List.getElem_cons_succ, List.getElem_cons_zero])
    --@G
    · skip
      go_simp
      have hb7 := below_alloc1 W0 (.cells #[.int .i64 0, .int .i64 1, .int .i64 2, .int .i64 4, .int .i64 5, .int .i64 6, .int .i64 8, .int .i64 9, .int .i64 10, .int .i64 11] 3)
      have HI7 := Lib.hid (ird_own (l := [0, 1, 2, 4, 5, 6, 8, 9, 10, 11]) (own_new W0 W0.heap.size 3 1 10 #[.int .i64 0, .int .i64 1, .int .i64 2, .int .i64 4, .int .i64 5, .int .i64 6, .int .i64 8, .int .i64 9, .int .i64 10, .int .i64 11] (Nat.le_refl _) (by decide) rfl))
      have HD7 := Lib.hid (below_up HD.out hb7)
      clear hb7
      refine hK.out _ _ (HQ.out _ HD7.out) (fun hHeld => ?_)
      clear hK K
      (try simp only [Act.put, List.getElem_toArray, List.getElem_cons_succ, List.getElem_cons_zero, List.setIfInBounds_toArray, List.set_cons_zero, List.set_cons_succ])
      generalize W0.heap.size = b7 at *
      generalize World.alloc W0 _ = W7 at *
      refine readyS (rs := [9, 15]) (by kernel_rfl) (by simp) ?_
      refine ReadyS.consH rfl (fun K hK => ?_) (ReadyS.consH rfl (fun K hK => ?_) ReadyS.nil)
      (try simp only [List.getElem_toArray, List.getElem_cons_succ, List.getElem_cons_zero])
      · skip
        go_simp
        (with_reducible refine (parts_ok ⟨12, S⟩ ⟨3, O, 7⟩ _ [0, 1, 2, 4, 5, 6, 8, 9, 10, 11] _ L W7 HI7.out (by decide) (HV.out.1.below (below_up HA2.out HD7.out)) (by omega)).mono ?_); rintro e w8 ⟨hE, hb8⟩
        obtain ⟨E, q, Ao, no, co, Ar, nr, cr, rfl⟩ := partsE_shape hE
        have HE := Lib.hid hE
        have HD8 := Lib.hid (below_up HD7.out hb8)
        clear hb8
        refine hK.out _ _ (HQ.out _ HD8.out) (fun hHeld => ?_)
        clear hK K
        (try simp only [Act.put, List.getElem_toArray, List.getElem_cons_succ, List.getElem_cons_zero, List.setIfInBounds_toArray, List.set_cons_zero, List.set_cons_succ])
        refine takeF (i := 10) (v := ?_) rfl (by kernel_rfl) (fun _ _ _ h => h) (Or.inl ⟨by kernel_rfl, ?_⟩) (by assumption) ?_; rotate_left; (focus (intro w _; go_simp; (try with_reducible rfl); done)); (try simp only [Act.put, List.getElem_toArray, List.getElem_cons_succ, List.getElem_cons_zero, List.setIfInBounds_toArray, List.set_cons_zero, List.set_cons_succ])
        refine takeF (i := 11) (v := ?_) rfl (by kernel_rfl) (fun _ _ _ h => h) (Or.inl ⟨by kernel_rfl, ?_⟩) (by assumption) ?_; rotate_left; (focus (intro w _; go_simp; (try with_reducible rfl); done)); (try simp only [Act.put, List.getElem_toArray, List.getElem_cons_succ, List.getElem_cons_zero, List.setIfInBounds_toArray, List.set_cons_zero, List.set_cons_succ])
        refine takeF (i := 12) (v := ?_) rfl (by kernel_rfl) (fun _ _ _ h => h) (Or.inl ⟨by kernel_rfl, ?_⟩) (by assumption) ?_; rotate_left; (focus (intro w _; go_simp; (try with_reducible rfl); done)); (try simp only [Act.put, List.getElem_toArray, List.getElem_cons_succ, List.getElem_cons_zero, List.setIfInBounds_toArray, List.set_cons_zero, List.set_cons_succ])
        refine takeF (i := 13) (v := ?_) rfl (by kernel_rfl) (fun _ _ _ h => h) (Or.inl ⟨by kernel_rfl, ?_⟩) (by assumption) ?_; rotate_left; (focus (intro w _; go_simp; (try with_reducible rfl); done)); (try simp only [Act.put, List.getElem_toArray, List.getElem_cons_succ, List.getElem_cons_zero, List.setIfInBounds_toArray, List.set_cons_zero, List.set_cons_succ])
        refine takeF (i := 14) (v := ?_) rfl (by kernel_rfl) (fun _ _ _ h => h) (Or.inl ⟨by kernel_rfl, ?_⟩) (by assumption) ?_; rotate_left; (focus (intro w _; go_simp; (try with_reducible rfl); done)); (try simp only [Act.put, List.getElem_toArray, List.getElem_cons_succ, List.getElem_cons_zero, List.setIfInBounds_toArray, List.set_cons_zero, List.set_cons_succ])
        refine readyS (rs := [15]) (by kernel_rfl) (by simp) ?_
        refine ReadyS.consH rfl (fun K hK => ?_) ReadyS.nil
        (try simp only [List.getElem_toArray, List.getElem_cons_succ, List.getElem_cons_zero])
        go_simp
        have hbz := below_alloc1 w8 (.cells #[.int .i64 0, .int .i64 0, .int .i64 0] 28)
        have HD9a := Lib.hid (below_up HD8.out hbz)
        have HF8 : Hid (Fr (fun k => k = w8.heap.size) w8 (w8.alloc (.cells #[.int .i64 0, .int .i64 0, .int .i64 0] 28))) := Lib.hid (Fr.of_below hbz)
        have HB9 := Lib.hid (alloc_at (w := w8) (.cells #[.int .i64 0, .int .i64 0, .int .i64 0] 28) rfl)
        have HLe : Hid (w2.heap.size ≤ w8.heap.size) := Lib.hid HD8.out.size
        clear hbz
        refine hK.out _ _ (HQ.out _ HD9a.out) (fun hHeld => ?_)
        clear hK K
        (try simp only [Act.put, List.getElem_toArray, List.getElem_cons_succ, List.getElem_cons_zero, List.setIfInBounds_toArray, List.set_cons_zero, List.set_cons_succ])
        refine takeF (i := 16) (v := ?_) rfl (by kernel_rfl) (fun _ _ _ h => h) (Or.inl ⟨by kernel_rfl, ?_⟩) (by assumption) ?_; rotate_left; (focus (intro w _; go_simp; (try with_reducible rfl); done)); (try simp only [Act.put, List.getElem_toArray, List.getElem_cons_succ, List.getElem_cons_zero, List.setIfInBounds_toArray, List.set_cons_zero, List.set_cons_succ])
        generalize hb9e : w8.heap.size = b9 at *
        generalize World.alloc w8 _ = w9 at *
        have HNe : Hid (∀ k, W7.heap.size ≤ k → k < w8.heap.size → k ≠ b9) := Lib.hid (fun k _ h => by omega)
        clear hb9e
        obtain ⟨z0, z1, z2⟩ := cells3p HB9.out
        have f0 := free_block HB9.out 0
        have f1 := free_block HB9.out 1
        have f2 := free_block HB9.out 2
        refine readyS (rs := [17]) (by kernel_rfl) (by simp) ?_
        refine ReadyS.consP rfl (by kernel_rfl) (fun K hK => ?_) ReadyS.nil
        (try simp only [List.getElem_toArray, List.getElem_cons_succ, List.getElem_cons_zero])
        go_simp
        have hq9 := blk_set (blk_set (blk_set HB9.out 0 (.int .i64 q.seg)) 1 (.int .i64 q.off)) 2 (.int .i64 q.next)
        have HF9 := Lib.hid (((HF8.out.set (p := ⟨b9, 0, none⟩) (fun _ => rfl) (.int .i64 q.seg)).set (p := ⟨b9, 1, none⟩) (fun _ => rfl) (.int .i64 q.off)).set (p := ⟨b9, 2, none⟩) (fun _ => rfl) (.int .i64 q.next))
        have HD9 := Lib.hid (((HD9a.out.setCell (p := ⟨b9, 0, none⟩) HLe.out (.int .i64 q.seg)).setCell (p := ⟨b9, 1, none⟩) HLe.out (.int .i64 q.off)).setCell (p := ⟨b9, 2, none⟩) HLe.out (.int .i64 q.next))
        have HAp := Lib.hid (apR_of HE.out HF9.out HNe.out hq9 HD9.out)
        refine hK.out _ _ ?_
        clear hK K
        (try simp only [Act.put, List.getElem_toArray, List.getElem_cons_succ, List.getElem_cons_zero, List.setIfInBounds_toArray, List.set_cons_zero, List.set_cons_succ])
        refine takeP (i := 18) (v := ?_) rfl (by kernel_rfl) (fun _ _ _ h => h) (Or.inl ⟨by kernel_rfl, ?_⟩) ?_; rotate_left; (focus (intro w _; go_simp; (try with_reducible rfl); done)); (try simp only [Act.put, List.getElem_toArray, List.getElem_cons_succ, List.getElem_cons_zero, List.setIfInBounds_toArray, List.set_cons_zero, List.set_cons_succ])
        refine takeP (i := 19) (v := ?_) rfl (by kernel_rfl) (fun _ _ _ h => h) (Or.inl ⟨by kernel_rfl, ?_⟩) ?_; rotate_left; (focus (intro w _; go_simp; (try with_reducible rfl); done)); (try simp only [Act.put, List.getElem_toArray, List.getElem_cons_succ, List.getElem_cons_zero, List.setIfInBounds_toArray, List.set_cons_zero, List.set_cons_succ])
        refine doneS (by kernel_rfl) ?_ _
        go_wp2
        go_meet
        case rel => exact HAp.out
      · skip
        go_simp
        have hbz := below_alloc1 W7 (.cells #[.int .i64 0, .int .i64 0, .int .i64 0] 28)
        have HDz := Lib.hid (below_up HD7.out hbz)
        have HBz := Lib.hid (alloc_at (w := W7) (.cells #[.int .i64 0, .int .i64 0, .int .i64 0] 28) rfl)
        have HLe : Hid (w2.heap.size ≤ W7.heap.size) := Lib.hid HD7.out.size
        have HLt : Hid (W7.heap.size < (W7.alloc (.cells #[.int .i64 0, .int .i64 0, .int .i64 0] 28)).heap.size) := Lib.hid (by unfold World.alloc; simp)
        have HI8 := Lib.hid (HI7.out.below hbz)
        clear hbz HI7
        have HI7 := HI8
        clear HI8
        refine hK.out _ _ (HQ.out _ HDz.out) (fun hHeld => ?_)
        clear hK K
        (try simp only [Act.put, List.getElem_toArray, List.getElem_cons_succ, List.getElem_cons_zero, List.setIfInBounds_toArray, List.set_cons_zero, List.set_cons_succ])
        generalize W7.heap.size = b9 at *
        generalize World.alloc W7 _ = Wz at *
        refine readyS (rs := [9]) (by kernel_rfl) (by simp) ?_
        refine ReadyS.consH rfl (fun K hK => ?_) ReadyS.nil
        (try simp only [List.getElem_toArray, List.getElem_cons_succ, List.getElem_cons_zero])
        go_simp
        (with_reducible refine (parts_ok ⟨12, S⟩ ⟨3, O, 7⟩ _ [0, 1, 2, 4, 5, 6, 8, 9, 10, 11] _ L Wz HI7.out (by decide) (HV.out.1.below (below_up HA2.out HDz.out)) (by omega)).mono ?_); rintro e w8 ⟨hE, hb8⟩
        obtain ⟨E, q, Ao, no, co, Ar, nr, cr, rfl⟩ := partsE_shape hE
        have HE := Lib.hid hE
        have HD8 := Lib.hid (below_up HDz.out hb8)
        have HB9 := Lib.hid (block_up HBz.out hb8)
        have HF8 : Hid (Fr (fun k => k = b9) w8 w8) := Lib.hid (Fr.refl _ _)
        have HD9a := HD8
        have HNe : Hid (∀ k, Wz.heap.size ≤ k → k < w8.heap.size → k ≠ b9) := Lib.hid (fun k h _ => by have := HLt.out; omega)
        clear hb8
        refine hK.out _ _ (HQ.out _ HD8.out) (fun hHeld => ?_)
        clear hK K
        (try simp only [Act.put, List.getElem_toArray, List.getElem_cons_succ, List.getElem_cons_zero, List.setIfInBounds_toArray, List.set_cons_zero, List.set_cons_succ])
        refine takeF (i := 10) (v := ?_) rfl (by kernel_rfl) (fun _ _ _ h => h) (Or.inl ⟨by kernel_rfl, ?_⟩) (by assumption) ?_; rotate_left; (focus (intro w _; go_simp; (try with_reducible rfl); done)); (try simp only [Act.put, List.getElem_toArray, List.getElem_cons_succ, List.getElem_cons_zero, List.setIfInBounds_toArray, List.set_cons_zero, List.set_cons_succ])
        refine takeF (i := 11) (v := ?_) rfl (by kernel_rfl) (fun _ _ _ h => h) (Or.inl ⟨by kernel_rfl, ?_⟩) (by assumption) ?_; rotate_left; (focus (intro w _; go_simp; (try with_reducible rfl); done)); (try simp only [Act.put, List.getElem_toArray, List.getElem_cons_succ, List.getElem_cons_zero, List.setIfInBounds_toArray, List.set_cons_zero, List.set_cons_succ])
        refine takeF (i := 12) (v := ?_) rfl (by kernel_rfl) (fun _ _ _ h => h) (Or.inl ⟨by kernel_rfl, ?_⟩) (by assumption) ?_; rotate_left; (focus (intro w _; go_simp; (try with_reducible rfl); done)); (try simp only [Act.put, List.getElem_toArray, List.getElem_cons_succ, List.getElem_cons_zero, List.setIfInBounds_toArray, List.set_cons_zero, List.set_cons_succ])
        refine takeF (i := 13) (v := ?_) rfl (by kernel_rfl) (fun _ _ _ h => h) (Or.inl ⟨by kernel_rfl, ?_⟩) (by assumption) ?_; rotate_left; (focus (intro w _; go_simp; (try with_reducible rfl); done)); (try simp only [Act.put, List.getElem_toArray, List.getElem_cons_succ, List.getElem_cons_zero, List.setIfInBounds_toArray, List.set_cons_zero, List.set_cons_succ])
        refine takeF (i := 14) (v := ?_) rfl (by kernel_rfl) (fun _ _ _ h => h) (Or.inl ⟨by kernel_rfl, ?_⟩) (by assumption) ?_; rotate_left; (focus (intro w _; go_simp; (try with_reducible rfl); done)); (try simp only [Act.put, List.getElem_toArray, List.getElem_cons_succ, List.getElem_cons_zero, List.setIfInBounds_toArray, List.set_cons_zero, List.set_cons_succ])
        refine takeF (i := 16) (v := ?_) rfl (by kernel_rfl) (fun _ _ _ h => h) (Or.inl ⟨by kernel_rfl, ?_⟩) (by assumption) ?_; rotate_left; (focus (intro w _; go_simp; (try with_reducible rfl); done)); (try simp only [Act.put, List.getElem_toArray, List.getElem_cons_succ, List.getElem_cons_zero, List.setIfInBounds_toArray, List.set_cons_zero, List.set_cons_succ])
        obtain ⟨z0, z1, z2⟩ := cells3p HB9.out
        have f0 := free_block HB9.out 0
        have f1 := free_block HB9.out 1
        have f2 := free_block HB9.out 2
        refine readyS (rs := [17]) (by kernel_rfl) (by simp) ?_
        refine ReadyS.consP rfl (by kernel_rfl) (fun K hK => ?_) ReadyS.nil
        (try simp only [List.getElem_toArray, List.getElem_cons_succ, List.getElem_cons_zero])
        go_simp
        have hq9 := blk_set (blk_set (blk_set HB9.out 0 (.int .i64 q.seg)) 1 (.int .i64 q.off)) 2 (.int .i64 q.next)
        have HF9 := Lib.hid (((HF8.out.set (p := ⟨b9, 0, none⟩) (fun _ => rfl) (.int .i64 q.seg)).set (p := ⟨b9, 1, none⟩) (fun _ => rfl) (.int .i64 q.off)).set (p := ⟨b9, 2, none⟩) (fun _ => rfl) (.int .i64 q.next))
        have HD9 := Lib.hid (((HD9a.out.setCell (p := ⟨b9, 0, none⟩) HLe.out (.int .i64 q.seg)).setCell (p := ⟨b9, 1, none⟩) HLe.out (.int .i64 q.off)).setCell (p := ⟨b9, 2, none⟩) HLe.out (.int .i64 q.next))
        have HAp := Lib.hid (apR_of HE.out HF9.out HNe.out hq9 HD9.out)
        refine hK.out _ _ ?_
        clear hK K
        (try simp only [Act.put, List.getElem_toArray, List.getElem_cons_succ, List.getElem_cons_zero, List.setIfInBounds_toArray, List.set_cons_zero, List.set_cons_succ])
        refine takeP (i := 18) (v := ?_) rfl (by kernel_rfl) (fun _ _ _ h => h) (Or.inl ⟨by kernel_rfl, ?_⟩) ?_; rotate_left; (focus (intro w _; go_simp; (try with_reducible rfl); done)); (try simp only [Act.put, List.getElem_toArray, List.getElem_cons_succ, List.getElem_cons_zero, List.setIfInBounds_toArray, List.set_cons_zero, List.set_cons_succ])
        refine takeP (i := 19) (v := ?_) rfl (by kernel_rfl) (fun _ _ _ h => h) (Or.inl ⟨by kernel_rfl, ?_⟩) ?_; rotate_left; (focus (intro w _; go_simp; (try with_reducible rfl); done)); (try simp only [Act.put, List.getElem_toArray, List.getElem_cons_succ, List.getElem_cons_zero, List.setIfInBounds_toArray, List.set_cons_zero, List.set_cons_succ])
        refine doneS (by kernel_rfl) ?_ _
        go_wp2
        go_meet
        case rel => exact HAp.out
    · skip
      go_simp
      have hbz := below_alloc1 W0 (.cells #[.int .i64 0, .int .i64 0, .int .i64 0] 28)
      have HDz := Lib.hid (below_up HD.out hbz)
      have HBz := Lib.hid (alloc_at (w := W0) (.cells #[.int .i64 0, .int .i64 0, .int .i64 0] 28) rfl)
      have HLe : Hid (w2.heap.size ≤ W0.heap.size) := Lib.hid HD.out.size
      have HLt : Hid (W0.heap.size < (W0.alloc (.cells #[.int .i64 0, .int .i64 0, .int .i64 0] 28)).heap.size) := Lib.hid (by unfold World.alloc; simp)
      clear hbz
      refine hK.out _ _ (HQ.out _ HDz.out) (fun hHeld => ?_)
      clear hK K
      (try simp only [Act.put, List.getElem_toArray, List.getElem_cons_succ, List.getElem_cons_zero, List.setIfInBounds_toArray, List.set_cons_zero, List.set_cons_succ])
      generalize W0.heap.size = b9 at *
      generalize World.alloc W0 _ = Wy at *
      refine readyS (rs := [7]) (by kernel_rfl) (by simp) ?_
      refine ReadyS.consH rfl (fun K hK => ?_) ReadyS.nil
      (try simp only [List.getElem_toArray, List.getElem_cons_succ, List.getElem_cons_zero])
      go_simp
      have hb7 := below_alloc1 Wy (.cells #[.int .i64 0, .int .i64 1, .int .i64 2, .int .i64 4, .int .i64 5, .int .i64 6, .int .i64 8, .int .i64 9, .int .i64 10, .int .i64 11] 3)
      have HI7 := Lib.hid (ird_own (l := [0, 1, 2, 4, 5, 6, 8, 9, 10, 11]) (own_new Wy Wy.heap.size 3 1 10 #[.int .i64 0, .int .i64 1, .int .i64 2, .int .i64 4, .int .i64 5, .int .i64 6, .int .i64 8, .int .i64 9, .int .i64 10, .int .i64 11] (Nat.le_refl _) (by decide) rfl))
      have HD7 := Lib.hid (below_up HDz.out hb7)
      have HBy := Lib.hid (block_up HBz.out hb7)
      have HLt2 : Hid (b9 < (Wy.alloc (.cells #[.int .i64 0, .int .i64 1, .int .i64 2, .int .i64 4, .int .i64 5, .int .i64 6, .int .i64 8, .int .i64 9, .int .i64 10, .int .i64 11] 3)).heap.size) := Lib.hid (Nat.lt_of_lt_of_le HLt.out hb7.size)
      clear hb7 HBz HLt HDz
      have HBz := HBy
      have HLt := HLt2
      have HDz := HD7
      clear HBy HLt2
      refine hK.out _ _ (HQ.out _ HD7.out) (fun hHeld => ?_)
      clear hK K
      (try simp only [Act.put, List.getElem_toArray, List.getElem_cons_succ, List.getElem_cons_zero, List.setIfInBounds_toArray, List.set_cons_zero, List.set_cons_succ])
      generalize Wy.heap.size = b7 at *
      generalize World.alloc Wy _ = Wz at *
      refine readyS (rs := [9]) (by kernel_rfl) (by simp) ?_
      refine ReadyS.consH rfl (fun K hK => ?_) ReadyS.nil
      (try simp only [List.getElem_toArray, List.getElem_cons_succ, List.getElem_cons_zero])
      go_simp
      (with_reducible refine (parts_ok ⟨12, S⟩ ⟨3, O, 7⟩ _ [0, 1, 2, 4, 5, 6, 8, 9, 10, 11] _ L Wz HI7.out (by decide) (HV.out.1.below (below_up HA2.out HDz.out)) (by omega)).mono ?_); rintro e w8 ⟨hE, hb8⟩
      obtain ⟨E, q, Ao, no, co, Ar, nr, cr, rfl⟩ := partsE_shape hE
      have HE := Lib.hid hE
      have HD8 := Lib.hid (below_up HDz.out hb8)
      have HB9 := Lib.hid (block_up HBz.out hb8)
      have HF8 : Hid (Fr (fun k => k = b9) w8 w8) := Lib.hid (Fr.refl _ _)
      have HD9a := HD8
      have HNe : Hid (∀ k, Wz.heap.size ≤ k → k < w8.heap.size → k ≠ b9) := Lib.hid (fun k h _ => by have := HLt.out; omega)
      clear hb8
      refine hK.out _ _ (HQ.out _ HD8.out) (fun hHeld => ?_)
      clear hK K
      (try simp only [Act.put, List.getElem_toArray, List.getElem_cons_succ, List.getElem_cons_zero, List.setIfInBounds_toArray, List.set_cons_zero, List.set_cons_succ])
      refine takeF (i := 10) (v := ?_) rfl (by kernel_rfl) (fun _ _ _ h => h) (Or.inl ⟨by kernel_rfl, ?_⟩) (by assumption) ?_; rotate_left; (focus (intro w _; go_simp; (try with_reducible rfl); done)); (try simp only [Act.put, List.getElem_toArray, List.getElem_cons_succ, List.getElem_cons_zero, List.setIfInBounds_toArray, List.set_cons_zero, List.set_cons_succ])
      refine takeF (i := 11) (v := ?_) rfl (by kernel_rfl) (fun _ _ _ h => h) (Or.inl ⟨by kernel_rfl, ?_⟩) (by assumption) ?_; rotate_left; (focus (intro w _; go_simp; (try with_reducible rfl); done)); (try simp only [Act.put, List.getElem_toArray, List.getElem_cons_succ, List.getElem_cons_zero, List.setIfInBounds_toArray, List.set_cons_zero, List.set_cons_succ])
      refine takeF (i := 12) (v := ?_) rfl (by kernel_rfl) (fun _ _ _ h => h) (Or.inl ⟨by kernel_rfl, ?_⟩) (by assumption) ?_; rotate_left; (focus (intro w _; go_simp; (try with_reducible rfl); done)); (try simp only [Act.put, List.getElem_toArray, List.getElem_cons_succ, List.getElem_cons_zero, List.setIfInBounds_toArray, List.set_cons_zero, List.set_cons_succ])
      refine takeF (i := 13) (v := ?_) rfl (by kernel_rfl) (fun _ _ _ h => h) (Or.inl ⟨by kernel_rfl, ?_⟩) (by assumption) ?_; rotate_left; (focus (intro w _; go_simp; (try with_reducible rfl); done)); (try simp only [Act.put, List.getElem_toArray, List.getElem_cons_succ, List.getElem_cons_zero, List.setIfInBounds_toArray, List.set_cons_zero, List.set_cons_succ])
      refine takeF (i := 14) (v := ?_) rfl (by kernel_rfl) (fun _ _ _ h => h) (Or.inl ⟨by kernel_rfl, ?_⟩) (by assumption) ?_; rotate_left; (focus (intro w _; go_simp; (try with_reducible rfl); done)); (try simp only [Act.put, List.getElem_toArray, List.getElem_cons_succ, List.getElem_cons_zero, List.setIfInBounds_toArray, List.set_cons_zero, List.set_cons_succ])
      refine takeF (i := 16) (v := ?_) rfl (by kernel_rfl) (fun _ _ _ h => h) (Or.inl ⟨by kernel_rfl, ?_⟩) (by assumption) ?_; rotate_left; (focus (intro w _; go_simp; (try with_reducible rfl); done)); (try simp only [Act.put, List.getElem_toArray, List.getElem_cons_succ, List.getElem_cons_zero, List.setIfInBounds_toArray, List.set_cons_zero, List.set_cons_succ])
      obtain ⟨z0, z1, z2⟩ := cells3p HB9.out
      have f0 := free_block HB9.out 0
      have f1 := free_block HB9.out 1
      have f2 := free_block HB9.out 2
      refine readyS (rs := [17]) (by kernel_rfl) (by simp) ?_
      refine ReadyS.consP rfl (by kernel_rfl) (fun K hK => ?_) ReadyS.nil
      (try simp only [List.getElem_toArray, List.getElem_cons_succ, List.getElem_cons_zero])
      go_simp
      have hq9 := blk_set (blk_set (blk_set HB9.out 0 (.int .i64 q.seg)) 1 (.int .i64 q.off)) 2 (.int .i64 q.next)
      have HF9 := Lib.hid (((HF8.out.set (p := ⟨b9, 0, none⟩) (fun _ => rfl) (.int .i64 q.seg)).set (p := ⟨b9, 1, none⟩) (fun _ => rfl) (.int .i64 q.off)).set (p := ⟨b9, 2, none⟩) (fun _ => rfl) (.int .i64 q.next))
      have HD9 := Lib.hid (((HD9a.out.setCell (p := ⟨b9, 0, none⟩) HLe.out (.int .i64 q.seg)).setCell (p := ⟨b9, 1, none⟩) HLe.out (.int .i64 q.off)).setCell (p := ⟨b9, 2, none⟩) HLe.out (.int .i64 q.next))
      have HAp := Lib.hid (apR_of HE.out HF9.out HNe.out hq9 HD9.out)
      refine hK.out _ _ ?_
      clear hK K
      (try simp only [Act.put, List.getElem_toArray, List.getElem_cons_succ, List.getElem_cons_zero, List.setIfInBounds_toArray, List.set_cons_zero, List.set_cons_succ])
      refine takeP (i := 18) (v := ?_) rfl (by kernel_rfl) (fun _ _ _ h => h) (Or.inl ⟨by kernel_rfl, ?_⟩) ?_; rotate_left; (focus (intro w _; go_simp; (try with_reducible rfl); done)); (try simp only [Act.put, List.getElem_toArray, List.getElem_cons_succ, List.getElem_cons_zero, List.setIfInBounds_toArray, List.set_cons_zero, List.set_cons_succ])
      refine takeP (i := 19) (v := ?_) rfl (by kernel_rfl) (fun _ _ _ h => h) (Or.inl ⟨by kernel_rfl, ?_⟩) ?_; rotate_left; (focus (intro w _; go_simp; (try with_reducible rfl); done)); (try simp only [Act.put, List.getElem_toArray, List.getElem_cons_succ, List.getElem_cons_zero, List.setIfInBounds_toArray, List.set_cons_zero, List.set_cons_succ])
      refine doneS (by kernel_rfl) ?_ _
      go_wp2
      go_meet
      case rel => exact HAp.out
    --@g
  case rest =>
  obtain ⟨E, q, Ao, no, co, Ar, nr, cr, b9, rfl, rfl, rfl, rfl, hq, hB, hE⟩ := hcut
  have HQ3 := Lib.hid hq
  have HG3 := Lib.hid (block_up HG2.out hB)
  have HA3 := Lib.hid (below_up HA2.out hB)
  clear hq hB HG2 HA2
  rcases hE with ⟨hE, rfl⟩ | ⟨rfl, ps, fr, hall, rfl, rfl, hps, hes⟩
  · have e1 : (E == 0) = false := by rw [beq_eq_false_iff_ne]; exact hE
    have e2 : (E != 0) = true := by simp [hE]
    clear hE
    go_wp2
    go_ret
    exact ⟨rfl, HA3.out⟩
  have HPs := Lib.hid hps
  have HEs := Lib.hid hes
  have HAll := Lib.hid hall
  obtain ⟨Nn, hNn⟩ : ∃ n, ps.length = n := ⟨_, rfl⟩
  have hN60 : ps.length ≤ 60 := by
    have := allL_len _ _ _ _ _ _ _ _ hall
    rw [List.length_map] at this
    omega
  clear hps hes hall
  obtain ⟨M, hM⟩ : ∃ M, 12 * S = M := ⟨_, rfl⟩
  have kM : IntKind.i64.wrap (12 * (S : Int)) = (M : Int) := by rw [IntWalk.i64_in _ (by omega)]; omega
  have kM' : 12 * (S : Int) = (M : Int) := by omega
  have hmk := make_b M (by omega) wc
  obtain ⟨g0, g1⟩ := cells2p HG3.out
  have HU4 := Lib.hid (alloc_at (w := wc) (.cells (ub M (fun _ => false)).toArray 4) rfl)
  have HB4 := Lib.hid (below_alloc1 wc (.cells (ub M (fun _ => false)).toArray 4))
  go_upto_region 10 with (fail)
  clear hmk g0 g1
  generalize hgue : wc.heap.size = gu at *
  generalize World.alloc wc _ = w4 at *
  have HGu := Lib.hid hgue
  clear hgue
  go_wp2_with fail
  go_loopw [13, 14] (fun vn vi W' => ∃ (i K n : Nat) (p : PlcS) (f : List Int) (rest : List EntS) (u : Nat → Bool), vi = .int .i64 i ∧ i ≤ ps.length ∧ vn = .int .i64 n ∧ n + rest.length = L.length ∧ allL ⟨12, S⟩ K p f rest = some ((ps.drop i).map PartS.d, q, fr) ∧ InvP S p f u ∧ 0 ≤ p.off ∧ p.off ≤ S ∧ f.length ≤ 10 ∧ W'.heap[gu]? = some (.cells (ub M u).toArray 4 (0, 0)) ∧ Below gu wc W') (fun _ vi _ => ps.length - (intOf vi).toNat)
  case atStart => exact ⟨0, L.length, 0, ⟨3, O, 7⟩, _, L, fun _ => false, rfl, Nat.zero_le _, rfl, by omega, HAll.out, ⟨(by decide : ([3, 7, 0, 1, 2, 4, 5, 6, 8, 9, 10, 11] : List Int).Nodup), (by decide : ∀ x ∈ ([3, 7, 0, 1, 2, 4, 5, 6, 8, 9, 10, 11] : List Int), 0 ≤ x ∧ x < 12), nofun⟩, by show (0 : Int) ≤ O; omega, by show (O : Int) ≤ S; omega, by decide, HU4.out, HB4.out⟩
  case round =>
  obtain ⟨i, K, n, p, f, rest, u, rfl, hi, rfl, hn, hall, hinv, ho1, ho2, hfl, hU, hB⟩ := hrel
  have HInv := Lib.hid hinv
  have HAl2 := Lib.hid hall
  have HU := Lib.hid hU
  have HB := Lib.hid hB
  have HBw : Hid (Below wc.heap.size wc wr) := Lib.hid (HGu.out.symm ▸ hB)
  have HGr := Lib.hid (block_up HG3.out HBw.out)
  have HAr := Lib.hid (below_up HA3.out HBw.out)
  clear hinv hall hU hB
  by_cases hlt : i < ps.length
  · have d : decide (i < ps.length) = true := decide_eq_true hlt
    have di : decide ((i : Int) < ps.length) = true := decide_eq_true (by omega)
    have bi : (i : Int) < ps.length := by omega
    have hal := HAl2.out
    rw [List.drop_eq_getElem_cons hlt, List.map_cons] at hal
    obtain ⟨K', f', seg, off', need, hseg, hoff, hneed, hs12, hroom, hpos, hle, hfl2, hun, hall2, hinv2⟩ := part_step (g := ⟨12, S⟩) rfl (by show (4 : Int) ≤ S; omega) hal HInv.out ho1 ho2
    obtain ⟨go, oo, rfl, _, hcx⟩ := (HPs.out.below HBw.out).get PartS.cells_len (by decide) hlt
    have hex := (HEs.out _ (List.getElem_mem hlt)).below HBw.out
    clear hal
    generalize ps[i] = x at *
    obtain ⟨xp, xl, xv, xes⟩ := x
    obtain ⟨xseg, xoff, xnext⟩ := xp
    simp only [PartS.d] at hseg hoff hneed hpos hle hun hall2 hinv2
    subst hseg hoff
    have hEx : ERd wr xv xes := hex
    clear hex
    have HUn := Lib.hid hun
    have HAl3 := Lib.hid hall2
    have HInv3 := Lib.hid hinv2
    have c0 := hcx 0 (by decide)
    have c1 := hcx 1 (by decide)
    have c2 := hcx 2 (by decide)
    have c3 := hcx 3 (by decide)
    have c4 := hcx 4 (by decide)
    have c5 := hcx 5 (by decide)
    simp only [Nat.add_zero, PartS.cells, List.getElem?_cons_zero, List.getElem?_cons_succ] at c0 c1 c2 c3 c4 c5
    obtain ⟨Ax, cx, rfl, _, _⟩ := id hEx
    have hbx := below_alloc1 wr (.cells #[.int .i64 (seg : Int), .int .i64 (off' : Int), .int .i64 xnext, .int .i64 xnext, .bool xl, .slice Ax xes.length cx] 37)
    have HX5 := Lib.hid (alloc_at (w := wr) (.cells #[.int .i64 (seg : Int), .int .i64 (off' : Int), .int .i64 xnext, .int .i64 xnext, .bool xl, .slice Ax xes.length cx] 37) rfl)
    have HEx := Lib.hid (hEx.below hbx)
    have HU5 := Lib.hid (block_up HU.out hbx)
    have HG5 := Lib.hid (block_up HGr.out hbx)
    have HB5 : Hid (Below gu wc (wr.alloc (.cells #[.int .i64 (seg : Int), .int .i64 (off' : Int), .int .i64 xnext, .int .i64 xnext, .bool xl, .slice Ax xes.length cx] 37))) := Lib.hid (HB.out.trans (hbx.mono (by rw [← HGu.out]; exact HB.out.size)))
    have HLt : Hid (gu < wr.heap.size) := Lib.hid (Array.getElem?_eq_some_iff.1 HU.out).1
    clear hbx hEx hcx hun hall2 hinv2
    go_upto_region 15 with (fail)
    clear c0 c1 c2 c3 c4 c5
    generalize wr.heap.size = bx at *
    generalize World.alloc wr _ = w5 at *
    have HNeed := Lib.hid hneed
    clear hneed
    have x5 : w5.cell? ⟨bx, 5, none⟩ = some (.slice Ax xes.length cx) := by rw [cell_block HX5.out]; rfl
    have hxl : xes.length ≤ 60 := by omega
    go_wp2_with fail
    clear x5
    go_loopw [16, 17] (fun vd vk W' => ∃ k : Nat, vk = .int .i64 k ∧ k ≤ xes.length ∧ vd = .int .i64 ((1 + cnt (xes.take k) : Nat) : Int) ∧ W' = w5) (fun _ vk _ => xes.length - (intOf vk).toNat)
    case atStart => exact ⟨0, rfl, Nat.zero_le _, rfl, rfl⟩
    case round =>
    obtain ⟨k, rfl, hk, hvd, hw⟩ := hrel
    replace hw := hw.symm; subst hw
    have x5 : w5.cell? ⟨bx, 5, none⟩ = some (.slice Ax xes.length cx) := by rw [cell_block HX5.out]; rfl
    by_cases hkl : k < xes.length
    · have d : decide (k < xes.length) = true := decide_eq_true hkl
      have di : decide ((k : Int) < xes.length) = true := decide_eq_true (by omega)
      have bk : (k : Int) < xes.length := by omega
      obtain ⟨ge, oe, rfl, _, hce⟩ := HEx.out.get EntS.cells_len (by decide) hkl
      have c0 := hce 0 (by decide)
      have hst := take_cnt hkl
      have hcb : cnt (xes.take k) ≤ k := Nat.le_trans List.countP_le_length (by rw [List.length_take]; omega)
      obtain ⟨C, hC⟩ : ∃ c, 1 + cnt (xes.take k) = c := ⟨_, rfl⟩
      rw [hC] at hvd
      subst hvd
      clear hce
      generalize xes[k] = y at *
      simp only [Nat.add_zero, EntS.cells, List.getElem?_cons_zero, List.getElem?_cons_succ] at c0
      by_cases hy : y.kind = 1
      · have hnd : needL y = 1 := by unfold needL; rw [if_pos hy]
        have HSt : Hid (C + 1 = 1 + cnt (xes.take (k + 1))) := Lib.hid (by omega)
        have e1 : (y.kind == 1) = true := by rw [beq_iff_eq]; exact hy
        have kc : IntKind.i64.wrap ((C : Int) + 1) = ((C + 1 : Nat) : Int) := by rw [IntWalk.i64_in _ (by omega)]; omega
        clear hst hnd
        go_wp2
        exact ⟨⟨k + 1, by go_num, by omega, by rw [← HSt.out] <;> simp, trivial⟩, by simp [intOf]; omega⟩
      · have hnd : needL y = 0 := by unfold needL; rw [if_neg hy]
        have HSt : Hid (C = 1 + cnt (xes.take (k + 1))) := Lib.hid (by omega)
        have e1 : (y.kind == 1) = false := by rw [beq_eq_false_iff_ne]; exact hy
        clear hst hnd
        go_wp2
        exact ⟨⟨k + 1, by go_num, by omega, by rw [← HSt.out], trivial⟩, by simp [intOf]; omega⟩
    · obtain rfl : k = xes.length := by omega
      have d : decide (xes.length < xes.length) = false := decide_eq_false (by omega)
      have di : decide ((xes.length : Int) < xes.length) = false := decide_eq_false (by omega)
      rw [List.take_length, HNeed.out] at hvd
      subst hvd
      have x0 : w5.cell? ⟨bx, 0, none⟩ = some (.int .i64 (seg : Int)) := by rw [cell_block HX5.out]; rfl
      have x1 : w5.cell? ⟨bx, 1, none⟩ = some (.int .i64 (off' : Int)) := by rw [cell_block HX5.out]; rfl
      have g1 := (cells2p HG5.out).2
      have kn : IntKind.i64.wrap ((n : Int) + xes.length) = ((n + xes.length : Nat) : Int) := by rw [IntWalk.i64_in _ (by omega)]; omega
      have ko : IntKind.i64.wrap ((off' : Int) + need) = ((off' + need : Nat) : Int) := by rw [IntWalk.i64_in _ (by omega)]; omega
      have dS0 : decide ((seg : Int) < 0) = false := decide_eq_false (by omega)
      have dS1 : decide ((seg : Int) ≥ 12) = false := decide_eq_false (by omega)
      have dS2 : decide ((12 : Int) ≤ seg) = false := decide_eq_false (by omega)
      have dS3 : decide (12 ≤ seg) = false := decide_eq_false (by omega)
      have dO : decide ((off' : Int) < 0) = false := decide_eq_false (by omega)
      have dR : decide (((off' + need : Nat) : Int) > S) = false := decide_eq_false (by omega)
      have dR2 : decide ((S : Int) < (off' : Int) + need) = false := decide_eq_false (by omega)
      have dR3 : decide (S < off' + need) = false := decide_eq_false (by omega)
      have dZ : ((xes.length : Int) == 0) = false := by rw [beq_eq_false_iff_ne]; omega
      have dZn : (xes.length == 0) = false := by rw [beq_eq_false_iff_ne]; omega
      go_wp2_with fail
      clear x5 x0 x1 g1 dS0 dS1 dS2 dS3 dO dR dR2 dR3 dZ dZn kn ko d di
      go_loopw [18] (fun vk W' => ∃ k : Nat, vk = .int .i64 k ∧ k ≤ need ∧ W'.heap[gu]? = some (.cells (ub M (fun c => u c || decide (seg * S + off' ≤ c ∧ c < seg * S + off' + k))).toArray 4 (0, 0)) ∧ Fr (fun b => b = gu) w5 W') (fun vk _ => need - (intOf vk).toNat)
      case atStart =>
        refine ⟨0, rfl, Nat.zero_le _, ?_, Fr.refl _ _⟩
        rw [HU5.out]
        have : (fun c => u c || decide (seg * S + off' ≤ c ∧ c < seg * S + off' + 0)) = u := by
          funext c
          rw [decide_eq_false (by omega), Bool.or_false]
        rw [this]
      case round =>
      obtain ⟨k, rfl, hk, hU, hF⟩ := hrel
      have HU6 := Lib.hid hU
      have HF6 := Lib.hid hF
      clear hU hF
      by_cases hkn : k < need
      · have d : decide (k < need) = true := decide_eq_true hkn
        have di : decide ((k : Int) < need) = true := decide_eq_true (by omega)
        have hlt' := HLt.out
        have hgl : bg < gu := by rw [← HGu.out]; exact (Array.getElem?_eq_some_iff.1 HG3.out).1
        have hX6 := blk_fr HX5.out HF6.out (show ¬ bx = gu by omega)
        have g1 := (cells2p (blk_fr HG5.out HF6.out (show ¬ bg = gu by omega))).2
        have x0 : wr.cell? ⟨bx, 0, none⟩ = some (.int .i64 (seg : Int)) := by rw [cell_block hX6]; rfl
        have x1 : wr.cell? ⟨bx, 1, none⟩ = some (.int .i64 (off' : Int)) := by rw [cell_block hX6]; rfl
        have hmul : seg * S ≤ 11 * S := Nat.mul_le_mul_right _ (by omega)
        have hun := HUn.out k hkn
        obtain ⟨A, hA⟩ : ∃ a, seg * S = a := ⟨_, rfl⟩
        rw [hA] at HU6 hmul hun
        have kA : IntKind.i64.wrap ((seg : Int) * S) = (A : Int) := by rw [← hA, IntWalk.i64_in _ (by rw [← Int.natCast_mul, hA]; omega)]; simp
        have kA2 : (seg : Int) * S = (A : Int) := by rw [← hA]; simp
        have kB : IntKind.i64.wrap ((A : Int) + off') = ((A + off' : Nat) : Int) := by rw [IntWalk.i64_in _ (by omega)]; omega
        obtain ⟨P, hP⟩ : ∃ p, A + off' + k = p := ⟨_, rfl⟩
        have kC : IntKind.i64.wrap (((A + off' : Nat) : Int) + k) = (P : Int) := by rw [IntWalk.i64_in _ (by omega)]; omega
        have kC2 : (A : Int) + off' + k = (P : Int) := by omega
        have hPM : P < M := by omega
        have bP : (P : Int) < M := by omega
        have hcell : wr.cell? ⟨gu, P, none⟩ = some (.bool false) := by
          have h1 := HU6.out
          rw [cell_block h1]
          have := ub_get (n := M) (fun c => u c || decide (A + off' ≤ c ∧ c < A + off' + k)) hPM
          rw [← hP] at this ⊢
          simp only [hun, Bool.false_or] at this
          rw [decide_eq_false (by omega)] at this
          simpa using this
        have fz := free_block HU6.out P
        have HHA := Lib.hid hA
        have HHP := Lib.hid hP
        clear hX6 hun hA hP
        go_wp2
        refine ⟨⟨k + 1, by go_num, by omega, ?_, HF6.out.set (p := ⟨gu, P, none⟩) (fun _ => rfl) _⟩, by simp [intOf]; omega⟩
        have h1 := blk_set HU6.out P (.bool true)
        rw [HHA.out]
        have h2 : (ub M (fun c => u c || decide (A + off' ≤ c ∧ c < A + off' + k))).toArray.setIfInBounds P (.bool true) = (ub M (fun c => u c || decide (A + off' ≤ c ∧ c < A + off' + (k + 1)))).toArray := by
          rw [List.setIfInBounds_toArray]
          rw [ub_set _ (fun c => u c || decide (A + off' ≤ c ∧ c < A + off' + (k + 1))) (fun x => by
            rw [Bool.or_assoc]
            congr 1
            rw [Bool.eq_iff_iff]
            simp only [Bool.or_eq_true, decide_eq_true_eq]
            have := HHP.out
            omega)]
        rw [← h2]
        exact h1
      · obtain rfl : k = need := by omega
        have d : decide (k < k) = false := decide_eq_false (by omega)
        have di : decide ((k : Int) < k) = false := decide_eq_false (by omega)
        have km : IntKind.i64.wrap ((i : Int) + 1) = ((i + 1 : Nat) : Int) := by rw [IntWalk.i64_in _ (by omega)]; omega
        have hB7 : Below gu wc wr := HB5.out.trans (HF6.out.toBelow (fun b h => by omega) (by have := HLt.out; have := (Array.getElem?_eq_some_iff.1 HU5.out).1; omega))
        have HB7 := Lib.hid hB7
        clear hB7
        go_wp2
        exact ⟨⟨i + 1, K', n + xes.length, ⟨seg, (off' : Int) + k, xnext⟩, f', rest.drop xes.length, _, by go_num, by omega, rfl, by rw [List.length_drop]; omega, HAl3.out, HInv3.out, by show (0 : Int) ≤ (off' : Int) + k; omega, by show (off' : Int) + k ≤ S; omega, by omega, HU6.out, HB7.out⟩, by simp [intOf]; omega⟩
  · obtain rfl : i = ps.length := by omega
    have d : decide (ps.length < ps.length) = false := decide_eq_false (by omega)
    have di : decide ((ps.length : Int) < ps.length) = false := decide_eq_false (by omega)
    have hal := HAl2.out
    rw [List.drop_length, List.map_nil] at hal
    obtain ⟨rfl, rfl, rfl⟩ := allL_done hal
    obtain rfl : n = L.length := by simpa using hn
    have g1 := (cells2p HGr.out).2
    have q1 := (cells3p (block_up HQ3.out HBw.out)).2.1
    have dA : decide (q.off ≤ S) = true := decide_eq_true ho2
    have dB : decide ((fr.length : Int) ≤ 10) = true := decide_eq_true (by omega)
    have dB2 : decide (fr.length ≤ 10) = true := decide_eq_true hfl
    clear hal hn
    go_wp2
    go_ret
    exact ⟨rfl, HAr.out⟩
end Go.Proofs.Ythpnlgdcijmocaa.Pl
