/- The walks over rect.Within, cell.Kid, cell.Check, cell.Root; package cell over cells as data. -/
import Derived.Test.YtdomngpkahgoiaaTi0
import Derived.Test.YtdomngpkahgoiaaTi2
namespace Go.Proofs.Ytdomngpkahgoiaa.Ti
open Go.RowKit Rg St Zw
set_option linter.unusedVariables false
set_option linter.unusedSimpArgs false
set_option maxHeartbeats 2000000 in
set_option maxRecDepth 100000 in
theorem within_ok (a b : RcS) (w : World) : Calls Try.prog 12 #[rcv a, rcv b] w fun e w' => e = .returned (.bool (RcS.within a b)) ∧ Below w.heap.size w w' := by
  have HC := Lib.hid (fun W => cutr_ok a b W)
  have HE := Lib.hid (fun W => empty_ok a W)
  have hq := fun w0 => eqlRect (RcS.cutR a b) a w0
  unfold RcS.within
  have s1 := fun (W : World) (o : Obj) => (show (W.alloc o).heap.size = W.heap.size + 1 by unfold World.alloc; simp)
  have hq0 := alloc_at (w := w) (.cells #[.int .u32 (a.x0 : Nat), .int .u32 (a.y0 : Nat), .int .u32 (a.x1 : Nat), .int .u32 (a.y1 : Nat)] 24) rfl
  have hb0 := below_alloc1 w (.cells #[.int .u32 (a.x0 : Nat), .int .u32 (a.y0 : Nat), .int .u32 (a.x1 : Nat), .int .u32 (a.y1 : Nat)] 24)
  have hz0 := s1 w (.cells #[.int .u32 (a.x0 : Nat), .int .u32 (a.y0 : Nat), .int .u32 (a.x1 : Nat), .int .u32 (a.y1 : Nat)] 24)
  have hq1 := alloc_at (w := w.alloc (.cells #[.int .u32 (a.x0 : Nat), .int .u32 (a.y0 : Nat), .int .u32 (a.x1 : Nat), .int .u32 (a.y1 : Nat)] 24)) (.cells #[.int .u32 (b.x0 : Nat), .int .u32 (b.y0 : Nat), .int .u32 (b.x1 : Nat), .int .u32 (b.y1 : Nat)] 24) hz0.symm
  have hq01 := alloc_old hq0 (.cells #[.int .u32 (b.x0 : Nat), .int .u32 (b.y0 : Nat), .int .u32 (b.x1 : Nat), .int .u32 (b.y1 : Nat)] 24)
  have hb1 := below_alloc hb0 (.cells #[.int .u32 (b.x0 : Nat), .int .u32 (b.y0 : Nat), .int .u32 (b.x1 : Nat), .int .u32 (b.y1 : Nat)] 24)
  have HS := Lib.hid (And.intro hq01 (And.intro hq1 hb1))
  clear hq0 hb0 hz0 hq1 hq01 hb1 s1
  have HQ := Lib.hid hq
  clear hq
  generalize RcS.cutR a b = c at *
  obtain ⟨k2, hk2⟩ : ∃ k, decide (c = a) = k := ⟨_, rfl⟩
  simp only [hk2] at HQ
  rw [hk2]
  clear hk2
  obtain ⟨ka, hka⟩ : ∃ k, a.emp = k := ⟨_, rfl⟩
  rw [hka] at HE ⊢
  clear hka
  go_enter Try.func12, Try.ntmps12
  go_upto_region 1 with (fail)
  generalize ((w.alloc _).alloc _) = W1 at *
  have HD0 := Lib.hid (below_drew1 (w := W1))
  have HSt : Hid (∀ W', Below W1.heap.size W1 W' → (W'.cell? ⟨w.heap.size, 0, none⟩ = some (.int .u32 (a.x0 : Nat)) ∧ W'.cell? ⟨w.heap.size, 1, none⟩ = some (.int .u32 (a.y0 : Nat)) ∧ W'.cell? ⟨w.heap.size, 2, none⟩ = some (.int .u32 (a.x1 : Nat)) ∧ W'.cell? ⟨w.heap.size, 3, none⟩ = some (.int .u32 (a.y1 : Nat))) ∧ (W'.cell? ⟨w.heap.size + 1, 0, none⟩ = some (.int .u32 (b.x0 : Nat)) ∧ W'.cell? ⟨w.heap.size + 1, 1, none⟩ = some (.int .u32 (b.y0 : Nat)) ∧ W'.cell? ⟨w.heap.size + 1, 2, none⟩ = some (.int .u32 (b.x1 : Nat)) ∧ W'.cell? ⟨w.heap.size + 1, 3, none⟩ = some (.int .u32 (b.y1 : Nat)))) := Lib.hid (fun W' hb => ⟨cells4 (block_up HS.out.1 hb), cells4 (block_up HS.out.2.1 hb)⟩)
  refine beginS (S := fun W' => (W'.cell? ⟨w.heap.size, 0, none⟩ = some (.int .u32 (a.x0 : Nat)) ∧ W'.cell? ⟨w.heap.size, 1, none⟩ = some (.int .u32 (a.y0 : Nat)) ∧ W'.cell? ⟨w.heap.size, 2, none⟩ = some (.int .u32 (a.x1 : Nat)) ∧ W'.cell? ⟨w.heap.size, 3, none⟩ = some (.int .u32 (a.y1 : Nat))) ∧ (W'.cell? ⟨w.heap.size + 1, 0, none⟩ = some (.int .u32 (b.x0 : Nat)) ∧ W'.cell? ⟨w.heap.size + 1, 1, none⟩ = some (.int .u32 (b.y0 : Nat)) ∧ W'.cell? ⟨w.heap.size + 1, 2, none⟩ = some (.int .u32 (b.x1 : Nat)) ∧ W'.cell? ⟨w.heap.size + 1, 3, none⟩ = some (.int .u32 (b.y1 : Nat)))) [] (by kernel_rfl) (HSt.out _ HD0.out) (fun hHeld0 => ?_)
  generalize (World.drew W1) = W0 at *
  cases ka with
  | true =>
    refine takeH (i := 0) (v := ?_) rfl (by kernel_rfl) (fun _ _ _ h => h) (Or.inl ⟨by kernel_rfl, ?_⟩) (by assumption) ?_; rotate_left; (focus (intro w hSw; (try dsimp only at hSw); go_simp; (try with_reducible rfl); done)); (try simp only [Act.put, List.getElem_toArray, List.getElem_cons_succ, List.getElem_cons_zero, List.setIfInBounds_toArray, List.set_cons_zero, List.set_cons_succ])
    clear hHeld0
    refine readyS (rs := [1]) (by kernel_rfl) (by simp) ?_
    refine ReadyS.consH rfl (fun K hK => ?_) ReadyS.nil
    (try simp only [List.getElem_toArray, List.getElem_cons_succ, List.getElem_cons_zero])
    go_simp
    (with_reducible refine (HE.out _).mono ?_); rintro e w3 ⟨rfl, hb⟩
    have HD3 := Lib.hid (below_up HD0.out hb)
    clear hb
    refine hK.out _ _ (HSt.out _ HD3.out) (fun hHeld0 => ?_)
    clear hK K
    (try simp only [Act.put, List.getElem_toArray, List.getElem_cons_succ, List.getElem_cons_zero, List.setIfInBounds_toArray, List.set_cons_zero, List.set_cons_succ])
    refine takeF (i := 2) (v := ?_) rfl (by kernel_rfl) (fun _ _ _ h => h) (Or.inl ⟨by kernel_rfl, ?_⟩) (by assumption) ?_; rotate_left; (focus (intro w _; go_simp; (try with_reducible rfl); done)); (try simp only [Act.put, List.getElem_toArray, List.getElem_cons_succ, List.getElem_cons_zero, List.setIfInBounds_toArray, List.set_cons_zero, List.set_cons_succ])
    refine takeF (i := 3) (v := undef) rfl (by kernel_rfl) (fun _ _ _ h => h) (Or.inr ⟨by kernel_rfl, rfl⟩) (by assumption) ?_; (try simp only [Act.put, List.getElem_toArray, List.getElem_cons_succ, List.getElem_cons_zero, List.setIfInBounds_toArray, List.set_cons_zero, List.set_cons_succ])
    refine takeF (i := 4) (v := undef) rfl (by kernel_rfl) (fun _ _ _ h => h) (Or.inr ⟨by kernel_rfl, rfl⟩) (by assumption) ?_; (try simp only [Act.put, List.getElem_toArray, List.getElem_cons_succ, List.getElem_cons_zero, List.setIfInBounds_toArray, List.set_cons_zero, List.set_cons_succ])
    refine takeF (i := 5) (v := undef) rfl (by kernel_rfl) (fun _ _ _ h => h) (Or.inr ⟨by kernel_rfl, rfl⟩) (by assumption) ?_; (try simp only [Act.put, List.getElem_toArray, List.getElem_cons_succ, List.getElem_cons_zero, List.setIfInBounds_toArray, List.set_cons_zero, List.set_cons_succ])
    refine takeF (i := 6) (v := undef) rfl (by kernel_rfl) (fun _ _ _ h => h) (Or.inr ⟨by kernel_rfl, rfl⟩) (by assumption) ?_; (try simp only [Act.put, List.getElem_toArray, List.getElem_cons_succ, List.getElem_cons_zero, List.setIfInBounds_toArray, List.set_cons_zero, List.set_cons_succ])
    refine takeF (i := 7) (v := undef) rfl (by kernel_rfl) (fun _ _ _ h => h) (Or.inr ⟨by kernel_rfl, rfl⟩) (by assumption) ?_; (try simp only [Act.put, List.getElem_toArray, List.getElem_cons_succ, List.getElem_cons_zero, List.setIfInBounds_toArray, List.set_cons_zero, List.set_cons_succ])
    refine takeF (i := 8) (v := ?_) rfl (by kernel_rfl) (fun _ _ _ h => h) (Or.inl ⟨by kernel_rfl, ?_⟩) (by assumption) ?_; rotate_left; (focus (intro w _; go_simp; (try with_reducible rfl); done)); (try simp only [Act.put, List.getElem_toArray, List.getElem_cons_succ, List.getElem_cons_zero, List.setIfInBounds_toArray, List.set_cons_zero, List.set_cons_succ])
    refine takeF (i := 9) (v := ?_) rfl (by kernel_rfl) (fun _ _ _ h => h) (Or.inl ⟨by kernel_rfl, ?_⟩) (by assumption) ?_; rotate_left; (focus (intro w _; go_simp; (try with_reducible rfl); done)); (try simp only [Act.put, List.getElem_toArray, List.getElem_cons_succ, List.getElem_cons_zero, List.setIfInBounds_toArray, List.set_cons_zero, List.set_cons_succ])
    clear hHeld0
    refine doneS (by kernel_rfl) ?_ _
    go_wp2
    go_ret
    exact ⟨rfl, below_up HS.out.2.2 HD3.out⟩
  | false =>
    refine takeH (i := 0) (v := ?_) rfl (by kernel_rfl) (fun _ _ _ h => h) (Or.inl ⟨by kernel_rfl, ?_⟩) (by assumption) ?_; rotate_left; (focus (intro w hSw; (try dsimp only at hSw); go_simp; (try with_reducible rfl); done)); (try simp only [Act.put, List.getElem_toArray, List.getElem_cons_succ, List.getElem_cons_zero, List.setIfInBounds_toArray, List.set_cons_zero, List.set_cons_succ])
    clear hHeld0
    refine readyS (rs := [1]) (by kernel_rfl) (by simp) ?_
    refine ReadyS.consH rfl (fun K hK => ?_) ReadyS.nil
    (try simp only [List.getElem_toArray, List.getElem_cons_succ, List.getElem_cons_zero])
    go_simp
    (with_reducible refine (HE.out _).mono ?_); rintro e w3 ⟨rfl, hb⟩
    have HD3 := Lib.hid (below_up HD0.out hb)
    clear hb
    refine hK.out _ _ (HSt.out _ HD3.out) (fun hHeld0 => ?_)
    clear hK K
    (try simp only [Act.put, List.getElem_toArray, List.getElem_cons_succ, List.getElem_cons_zero, List.setIfInBounds_toArray, List.set_cons_zero, List.set_cons_succ])
    refine takeF (i := 2) (v := ?_) rfl (by kernel_rfl) (fun _ _ _ h => h) (Or.inl ⟨by kernel_rfl, ?_⟩) (by assumption) ?_; rotate_left; (focus (intro w _; go_simp; (try with_reducible rfl); done)); (try simp only [Act.put, List.getElem_toArray, List.getElem_cons_succ, List.getElem_cons_zero, List.setIfInBounds_toArray, List.set_cons_zero, List.set_cons_succ])
    refine takeH (i := 3) (v := ?_) rfl (by kernel_rfl) (fun _ _ _ h => h) (Or.inl ⟨by kernel_rfl, ?_⟩) (by assumption) ?_; rotate_left; (focus (intro w hSw; (try dsimp only at hSw); go_simp; (try with_reducible rfl); done)); (try simp only [Act.put, List.getElem_toArray, List.getElem_cons_succ, List.getElem_cons_zero, List.setIfInBounds_toArray, List.set_cons_zero, List.set_cons_succ])
    refine takeH (i := 4) (v := ?_) rfl (by kernel_rfl) (fun _ _ _ h => h) (Or.inl ⟨by kernel_rfl, ?_⟩) (by assumption) ?_; rotate_left; (focus (intro w hSw; (try dsimp only at hSw); go_simp; (try with_reducible rfl); done)); (try simp only [Act.put, List.getElem_toArray, List.getElem_cons_succ, List.getElem_cons_zero, List.setIfInBounds_toArray, List.set_cons_zero, List.set_cons_succ])
    refine takeH (i := 6) (v := ?_) rfl (by kernel_rfl) (fun _ _ _ h => h) (Or.inl ⟨by kernel_rfl, ?_⟩) (by assumption) ?_; rotate_left; (focus (intro w hSw; (try dsimp only at hSw); go_simp; (try with_reducible rfl); done)); (try simp only [Act.put, List.getElem_toArray, List.getElem_cons_succ, List.getElem_cons_zero, List.setIfInBounds_toArray, List.set_cons_zero, List.set_cons_succ])
    clear hHeld0
    refine readyS (rs := [5]) (by kernel_rfl) (by simp) ?_
    refine ReadyS.consH rfl (fun K hK => ?_) ReadyS.nil
    (try simp only [List.getElem_toArray, List.getElem_cons_succ, List.getElem_cons_zero])
    go_simp
    (with_reducible refine (HC.out _).mono ?_); rintro e w4 ⟨rfl, hb⟩
    have HD4 := Lib.hid (below_up HD3.out hb)
    clear hb
    refine hK.out _ _ (HSt.out _ HD4.out) (fun hHeld0 => ?_)
    clear hK K
    have hqq := HQ.out
    (try simp only [Act.put, List.getElem_toArray, List.getElem_cons_succ, List.getElem_cons_zero, List.setIfInBounds_toArray, List.set_cons_zero, List.set_cons_succ])
    refine takeF (i := 7) (v := ?_) rfl (by kernel_rfl) (fun _ _ _ h => h) (Or.inl ⟨by kernel_rfl, ?_⟩) (by assumption) ?_; rotate_left; (focus (intro w _; go_simp; (try with_reducible rfl); done)); (try simp only [Act.put, List.getElem_toArray, List.getElem_cons_succ, List.getElem_cons_zero, List.setIfInBounds_toArray, List.set_cons_zero, List.set_cons_succ])
    refine takeF (i := 8) (v := ?_) rfl (by kernel_rfl) (fun _ _ _ h => h) (Or.inl ⟨by kernel_rfl, ?_⟩) (by assumption) ?_; rotate_left; (focus (intro w _; go_simp; (try with_reducible rfl); done)); (try simp only [Act.put, List.getElem_toArray, List.getElem_cons_succ, List.getElem_cons_zero, List.setIfInBounds_toArray, List.set_cons_zero, List.set_cons_succ])
    refine takeF (i := 9) (v := ?_) rfl (by kernel_rfl) (fun _ _ _ h => h) (Or.inl ⟨by kernel_rfl, ?_⟩) (by assumption) ?_; rotate_left; (focus (intro w _; go_simp; (try with_reducible rfl); done)); (try simp only [Act.put, List.getElem_toArray, List.getElem_cons_succ, List.getElem_cons_zero, List.setIfInBounds_toArray, List.set_cons_zero, List.set_cons_succ])
    clear hHeld0 hqq
    refine doneS (by kernel_rfl) ?_ _
    go_wp2
    go_ret
    exact ⟨rfl, below_up HS.out.2.2 HD4.out⟩
theorem fixc_ok (c : CeS) (w : World) (h : c.fine) : Calls Try.prog 44 #[cev c] w fun e w' => e = .returned (cev c.fix) ∧ Below w.heap.size w w' := fix_ok c.x c.y c.l w h.1 h.2.1 h.2.2.1 h.2.2.2
theorem rectc_ok (c : CeS) (w : World) (h : c.fine) : Calls Try.prog 13 #[cev c] w fun e w' => e = .returned (rcv c.rect) ∧ Below w.heap.size w w' := rect_ok c.x c.y c.l w h.1 h.2.1 h.2.2.1 h.2.2.2
theorem hasc_ok (c : CeS) (u v : Nat) (w : World) (h : c.fine) (hu : u < 4294967296) (hv : v < 4294967296) : Calls Try.prog 19 #[cev c, .int .u32 (u : Nat), .int .u32 (v : Nat)] w fun e w' => e = .returned (.bool (c.has u v)) ∧ Below w.heap.size w w' := has_ok c.x c.y c.l u v w h.1 h.2.1 hu hv h.2.2.1 h.2.2.2
theorem atc_ok (c : CeS) (w : World) (h : c.fine) : Calls Try.prog 16 #[.int .u32 (c.x : Nat), .int .u32 (c.y : Nat), .int .i64 c.l] w fun e w' => e = .returned (cev c.fix) ∧ Below w.heap.size w w' := at_ok c.x c.y c.l w h.1 h.2.1 h.2.2.1 h.2.2.2
theorem root_ok (w : World) : Calls Try.prog 39 #[] w fun e w' => e = .returned (cev CeS.root) ∧ Below w.heap.size w w' := by
  go_enter Try.func39, Try.ntmps39
  go_wp2
  refine bodyPost_ret (v := cev CeS.root) (by simp [results, Try.results39, go_sem, cev, CeS.root]) rfl ⟨rfl, ?_⟩
  exact below_alloc1 _ _
theorem eqlC (a b : CeS) (w : World) : (binOp .eql 32 (cev a) (cev b)).run Try.prog w = .ok (.bool (decide (a = b))) w := by
  have h := eqlCell a.x a.y b.x b.y a.l b.l w
  obtain ⟨a0, a1, a2⟩ := a
  obtain ⟨b0, b1, b2⟩ := b
  have e : decide ((⟨a0, a1, a2⟩ : CeS) = ⟨b0, b1, b2⟩) = (((a0 : Int) == b0) && (((a1 : Int) == b1) && (a2 == b2))) := by
    rw [Bool.eq_iff_iff]; simp [Int.ofNat_inj]
  rw [e]; exact h
theorem neqC (a b : CeS) (w : World) : (binOp .neq 32 (cev a) (cev b)).run Try.prog w = .ok (.bool (!decide (a = b))) w := by
  obtain ⟨a0, a1, a2⟩ := a
  obtain ⟨b0, b1, b2⟩ := b
  have e : decide ((⟨a0, a1, a2⟩ : CeS) = ⟨b0, b1, b2⟩) = (((a0 : Int) == b0) && (((a1 : Int) == b1) && (a2 == b2))) := by
    rw [Bool.eq_iff_iff]; simp [Int.ofNat_inj]
  rw [e]
  refine neq_of (eqs_of Try.underlying32 (by kernel_rfl) ?_)
  refine eqf_cons (by rfl) (by go_simp; rfl) (by go_simp; rfl) (by go_simp) ?_
  refine eqf_cons (by rfl) (by go_simp; rfl) (by go_simp; rfl) (by go_simp) ?_
  exact eqf_last (by rfl) (by go_simp; rfl) (by go_simp; rfl) (by go_simp)
def chkC (c : CeS) : Int := if c.fix = c then 0 else 4
set_option maxHeartbeats 2000000 in
theorem checkc_ok (c : CeS) (w : World) (h : c.fine) : Calls Try.prog 22 #[cev c] w fun e w' => e = .returned (.int .i64 (chkC c)) ∧ Below w.heap.size w w' := by
  have HF := Lib.hid (fun W => fixc_ok c W h)
  have hq0 := alloc_at (w := w) (.cells #[.int .u32 (c.x : Nat), .int .u32 (c.y : Nat), .int .i64 c.l] 32) rfl
  have hb0 := below_alloc1 w (.cells #[.int .u32 (c.x : Nat), .int .u32 (c.y : Nat), .int .i64 c.l] 32)
  have HS := Lib.hid (And.intro hq0 hb0)
  have HN := Lib.hid (fun W => neqC c.fix c W)
  unfold chkC
  generalize c.fix = d at *
  clear hq0 hb0
  obtain ⟨E, hE⟩ : ∃ E : Int, (if d = c then 0 else 4 : Int) = E := ⟨_, rfl⟩
  rw [hE]
  have HE := Lib.hid hE
  clear hE
  go_enter Try.func22, Try.ntmps22
  go_upto_region 1 with (fail)
  generalize (World.alloc w _) = W1 at *
  have HD0 := Lib.hid (below_drew1 (w := W1))
  have HSt : Hid (∀ W', Below W1.heap.size W1 W' → (W'.cell? ⟨w.heap.size, 0, none⟩ = some (.int .u32 (c.x : Nat)) ∧ W'.cell? ⟨w.heap.size, 1, none⟩ = some (.int .u32 (c.y : Nat)) ∧ W'.cell? ⟨w.heap.size, 2, none⟩ = some (.int .i64 c.l))) := Lib.hid (fun W' hb => cells3 (block_up HS.out.1 hb))
  refine beginS (S := fun W' => (W'.cell? ⟨w.heap.size, 0, none⟩ = some (.int .u32 (c.x : Nat)) ∧ W'.cell? ⟨w.heap.size, 1, none⟩ = some (.int .u32 (c.y : Nat)) ∧ W'.cell? ⟨w.heap.size, 2, none⟩ = some (.int .i64 c.l))) [] (by kernel_rfl) (HSt.out _ HD0.out) (fun hHeld0 => ?_)
  generalize (World.drew W1) = W0 at *
  refine takeH (i := 0) (v := ?_) rfl (by kernel_rfl) (fun _ _ _ h => h) (Or.inl ⟨by kernel_rfl, ?_⟩) (by assumption) ?_; rotate_left; (focus (intro w hSw; (try dsimp only at hSw); go_simp; (try with_reducible rfl); done)); (try simp only [Act.put, List.getElem_toArray, List.getElem_cons_succ, List.getElem_cons_zero, List.setIfInBounds_toArray, List.set_cons_zero, List.set_cons_succ])
  refine takeH (i := 2) (v := ?_) rfl (by kernel_rfl) (fun _ _ _ h => h) (Or.inl ⟨by kernel_rfl, ?_⟩) (by assumption) ?_; rotate_left; (focus (intro w hSw; (try dsimp only at hSw); go_simp; (try with_reducible rfl); done)); (try simp only [Act.put, List.getElem_toArray, List.getElem_cons_succ, List.getElem_cons_zero, List.setIfInBounds_toArray, List.set_cons_zero, List.set_cons_succ])
  clear hHeld0
  refine readyS (rs := [1]) (by kernel_rfl) (by simp) ?_
  refine ReadyS.consH rfl (fun K hK => ?_) ReadyS.nil
  (try simp only [List.getElem_toArray, List.getElem_cons_succ, List.getElem_cons_zero])
  go_simp
  (with_reducible refine (HF.out _).mono ?_); rintro e w3 ⟨rfl, hb⟩
  have HD3 := Lib.hid (below_up HS.out.2 (below_up HD0.out hb))
  refine hK.out _ _ (HSt.out _ (below_up HD0.out hb)) (fun hHeld0 => ?_)
  clear hK K hb
  have hn := HN.out
  (try simp only [Act.put, List.getElem_toArray, List.getElem_cons_succ, List.getElem_cons_zero, List.setIfInBounds_toArray, List.set_cons_zero, List.set_cons_succ])
  refine takeF (i := 3) (v := ?_) rfl (by kernel_rfl) (fun _ _ _ h => h) (Or.inl ⟨by kernel_rfl, ?_⟩) (by assumption) ?_; rotate_left; (focus (intro w _; go_simp; (try with_reducible rfl); done)); (try simp only [Act.put, List.getElem_toArray, List.getElem_cons_succ, List.getElem_cons_zero, List.setIfInBounds_toArray, List.set_cons_zero, List.set_cons_succ])
  clear hHeld0 hn
  refine doneS (by kernel_rfl) ?_ _
  by_cases hdc : d = c
  · have hd : decide (d = c) = true := decide_eq_true hdc
    obtain rfl : E = 0 := by rw [← HE.out, if_pos hdc]
    rw [hd]
    clear hdc
    go_wp2
    go_ret
    exact ⟨rfl, HD3.out⟩
  · have hd : decide (d = c) = false := decide_eq_false hdc
    obtain rfl : E = 4 := by rw [← HE.out, if_neg hdc]
    rw [hd]
    clear hdc
    go_wp2
    go_ret
    exact ⟨rfl, HD3.out⟩
end Go.Proofs.Ytdomngpkahgoiaa.Ti
