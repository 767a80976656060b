/- The walks over package model's Insert, Delete, Move. -/
import Derived.Test.YtdomngpkahgoiaaMd1
namespace Go.Proofs.Ytdomngpkahgoiaa.Md
open Go.RowKit Pt St Rg
set_option linter.unusedVariables false
set_option linter.unusedSimpArgs false
theorem insert_no {W : World} {p : Value} (h : Nob W p) (x : PtS) : Calls Try.prog 28 #[p, pv x] W fun e w' => e = .returned (.int .i64 9) ∧ Below W.heap.size W w' := by
  have HI := Lib.hid (fun W' hb => is_no (h.below hb) (W := W'))
  clear h
  obtain ⟨xi, xx, xy, xd⟩ := x
  go_enter Try.func28, Try.ntmps28
  go_wp2_with fail
  (with_reducible refine (HI.out _ (below_alloc1 _ _)).mono ?_); rintro e w1 ⟨rfl, rfl⟩
  go_wp2
  go_ret
  exact ⟨rfl, below_alloc1 _ _⟩
theorem delete_no {W : World} {p : Value} (h : Nob W p) (id : Int) : Calls Try.prog 29 #[p, .int .i64 id] W fun e w' => e = .returned (.int .i64 9) ∧ W = w' := by
  have HI := Lib.hid (place_no h id)
  clear h
  go_enter Try.func29, Try.ntmps29
  go_wp2_with fail
  (with_reducible refine HI.out.mono ?_); rintro e w1 ⟨rfl, rfl⟩
  go_wp2
  go_ret
  exact ⟨rfl, rfl⟩
theorem move_no {W : World} {p : Value} (h : Nob W p) (id x y : Int) : Calls Try.prog 30 #[p, .int .i64 id, .int .u32 x, .int .u32 y] W fun e w' => e = .returned (.int .i64 9) ∧ W = w' := by
  have HI := Lib.hid (place_no h id)
  clear h
  go_enter Try.func30, Try.ntmps30
  go_wp2_with fail
  (with_reducible refine HI.out.mono ?_); rintro e w1 ⟨rfl, rfl⟩
  go_wp2
  go_ret
  exact ⟨rfl, rfl⟩
/-- A new row stands in the model's block. -/
theorem md_store {W : World} {base g : Nat} {v u : Value} {L M : List PtS} (h : MdV W base g v L) (hg : u.ownBlock ≠ some g) (ho : W.ownsRow base 56 4 u M.length (M.flatMap PtS.cells)) : MdV (W.setCell ⟨g, 0, none⟩ u) base g u M := by
  refine ⟨?_, own_set ho hg u⟩
  have := blk_set h.blk 0 u
  simpa using this
set_option maxHeartbeats 4000000 in
set_option maxRecDepth 100000 in
theorem insert_ok {W : World} {base g : Nat} {v : Value} {L : List PtS} (h : MdV W base g v L) (hb0 : base ≤ W.heap.size) (hl : L.length ≤ 1000000) (x : PtS) :
    Calls Try.prog 28 #[.pointer (some ⟨g, 0, none⟩), pv x] W fun e w' => ∃ v', e = .returned (.int .i64 (insC x L)) ∧ MdV w' base g v' (insL x L) ∧ Fr (fun k => k = g) W w' ∧ (v' = v ∨ ∀ k, v'.ownBlock = some k → W.heap.size ≤ k) := by
  have hb1 := below_alloc1 W (.cells #[.int .i64 x.id, .int .u32 (x.x : Nat), .int .u32 (x.y : Nat), .string x.d] 56)
  have HB := Lib.hid hb1
  have HMw := Lib.hid h
  have HM := Lib.hid (h.below hb1)
  have hq := alloc_at (w := W) (.cells #[.int .i64 x.id, .int .u32 (x.x : Nat), .int .u32 (x.y : Nat), .string x.d] 56) rfl
  have HQ := Lib.hid hq
  have HI := Lib.hid (is_t true (md_at (h.below hb1)).1.2)
  have HC := Lib.hid (fun W => chkp_ok x W)
  have HF := Lib.hid (fun v W (hv : PRow W v L) => pfind_ok v L x.id W hv (by omega))
  have r0 := cell_block hq 0; have r1 := cell_block hq 1; have r2 := cell_block hq 2; have r3 := cell_block hq 3
  simp only [List.getElem?_toArray, List.getElem?_cons_zero, List.getElem?_cons_succ] at r0 r1 r2 r3
  obtain ⟨A, n, c, rfl⟩ : ∃ A n c, v = .slice A n c := by obtain ⟨A, c, e, _⟩ := own_rd h.row; exact ⟨A, _, c, e⟩
  clear h hq hb1
  obtain ⟨ec, hec⟩ : ∃ c, insC x L = c := ⟨_, rfl⟩
  obtain ⟨M, hM⟩ : ∃ M, insL x L = M := ⟨_, rfl⟩
  rw [hec, hM]
  have HE := Lib.hid (And.intro hec hM)
  clear hec hM
  have hgx : W.heap.size ≠ g := fun e => by
    have h1 := HMw.out.blk
    have := (Array.getElem?_eq_some_iff.1 h1).1
    omega
  by_cases h1 : x.chk = 0
  · have hz := fidx_bnd (fun y : PtS => y.id == x.id) L
    obtain ⟨z, hz2⟩ : ∃ z, fidx (fun y : PtS => y.id == x.id) L = z := ⟨_, rfl⟩
    have hz3 : at_ L x.id = z := hz2
    simp only [hz2] at HF
    have HC0 := Lib.hid (fun W => by have := HC.out W; rw [h1] at this; exact this)
    have e1 : ec = if 0 ≤ z then 22 else 0 := by rw [← HE.out.1]; unfold insC; rw [if_neg (fun h => h h1), hz3]
    clear hz hz2 h1
    by_cases h2 : 0 ≤ z
    · rw [if_pos h2] at e1
      subst e1
      have e2 : M = L := by rw [← HE.out.2]; unfold insL; rw [HE.out.1, if_neg (by decide)]
      subst e2
      have dz : decide (0 ≤ z) = true := decide_eq_true h2
      have HE2 := Lib.hid HE
      clear HE hz3
      go_enter Try.func28, Try.ntmps28
      go_wp2_with fail
      (with_reducible refine HI.out.mono ?_); rintro e w1 ⟨rfl, hw1⟩
      subst hw1
      go_wp2_with fail
      (with_reducible refine (HC0.out _).mono ?_); rintro e w2 ⟨rfl, hb2⟩
      have HB2 := Lib.hid (below_up HB.out hb2)
      have HM2 := Lib.hid (HM.out.below hb2)
      have HQ2 := Lib.hid (block_up HQ.out hb2)
      clear hb2
      go_upto_region 6 with (fail)
      have hd := below_drew1 (w := w2)
      have HB3 := Lib.hid (below_up HB2.out hd)
      have HM3 := Lib.hid (HM2.out.below hd)
      have HQ3 := Lib.hid (block_up HQ2.out hd)
      have hq3 := HQ3.out
      have s0 := cell_block hq3 0
      simp only [List.getElem?_toArray, List.getElem?_cons_zero] at s0
      refine beginS (S := fun W' => W'.cell? ⟨g, 0, none⟩ = some (.slice A n c) ∧ W'.cell? ⟨W.heap.size, 0, none⟩ = some (.int .i64 x.id)) [] (by kernel_rfl) ⟨(md_at HM3.out).1.1, s0⟩ (fun hHeld0 => ?_)
      have HF3 := Lib.hid (HF.out _ _ (srd_own PtS.cells_len (by decide) HM3.out.row))
      generalize (World.drew w2) = W3 at *
      clear hd hq3 s0
      refine takeF (i := 0) (v := ?_) rfl (by kernel_rfl) (fun _ _ _ h => h) (Or.inl ⟨by kernel_rfl, ?_⟩) (by assumption) ?_; rotate_left; (focus (intro w _; go_simp; (try with_reducible rfl); done)); (try simp only [Act.put, List.getElem_toArray, List.getElem_cons_succ, List.getElem_cons_zero, List.setIfInBounds_toArray, List.set_cons_zero, List.set_cons_succ])
      refine takeF (i := 1) (v := ?_) rfl (by kernel_rfl) (fun _ _ _ h => h) (Or.inl ⟨by kernel_rfl, ?_⟩) (by assumption) ?_; rotate_left; (focus (intro w _; go_simp; (try with_reducible rfl); done)); (try simp only [Act.put, List.getElem_toArray, List.getElem_cons_succ, List.getElem_cons_zero, List.setIfInBounds_toArray, List.set_cons_zero, List.set_cons_succ])
      refine takeF (i := 2) (v := ?_) rfl (by kernel_rfl) (fun _ _ _ h => h) (Or.inl ⟨by kernel_rfl, ?_⟩) (by assumption) ?_; rotate_left; (focus (intro w _; go_simp; (try with_reducible rfl); done)); (try simp only [Act.put, List.getElem_toArray, List.getElem_cons_succ, List.getElem_cons_zero, List.setIfInBounds_toArray, List.set_cons_zero, List.set_cons_succ])
      refine takeH (i := 3) (v := ?_) rfl (by kernel_rfl) (fun _ _ _ h => h) (Or.inl ⟨by kernel_rfl, ?_⟩) (by assumption) ?_; rotate_left; (focus (intro w hSw; (try dsimp only at hSw); go_simp; (try with_reducible rfl); done)); (try simp only [Act.put, List.getElem_toArray, List.getElem_cons_succ, List.getElem_cons_zero, List.setIfInBounds_toArray, List.set_cons_zero, List.set_cons_succ])
      refine takeF (i := 4) (v := ?_) rfl (by kernel_rfl) (fun _ _ _ h => h) (Or.inl ⟨by kernel_rfl, ?_⟩) (by assumption) ?_; rotate_left; (focus (intro w _; go_simp; (try with_reducible rfl); done)); (try simp only [Act.put, List.getElem_toArray, List.getElem_cons_succ, List.getElem_cons_zero, List.setIfInBounds_toArray, List.set_cons_zero, List.set_cons_succ])
      refine takeH (i := 5) (v := ?_) rfl (by kernel_rfl) (fun _ _ _ h => h) (Or.inl ⟨by kernel_rfl, ?_⟩) (by assumption) ?_; rotate_left; (focus (intro w hSw; (try dsimp only at hSw); go_simp; (try with_reducible rfl); done)); (try simp only [Act.put, List.getElem_toArray, List.getElem_cons_succ, List.getElem_cons_zero, List.setIfInBounds_toArray, List.set_cons_zero, List.set_cons_succ])
      clear hHeld0
      refine readyS (rs := [6]) (by kernel_rfl) (by simp) ?_
      refine ReadyS.consH rfl (fun K hK => ?_) ReadyS.nil
      (try simp only [List.getElem_toArray, List.getElem_cons_succ, List.getElem_cons_zero])
      go_simp
      (with_reducible refine HF3.out.mono ?_); rintro e W4 ⟨rfl, hb⟩
      have HB4 := Lib.hid (below_up HB3.out hb)
      have HM4 := Lib.hid (HM3.out.below hb)
      refine hK.out _ _ ⟨(md_at HM4.out).1.1, ?_⟩ (fun hHeld => ?_)
      · have := cell_block (block_up HQ3.out hb) 0
        simpa using this
      clear hK K hb
      (try simp only [Act.put, List.getElem_toArray, List.getElem_cons_succ, List.getElem_cons_zero, List.setIfInBounds_toArray, List.set_cons_zero, List.set_cons_succ])
      refine takeF (i := 7) (v := ?_) rfl (by kernel_rfl) (fun _ _ _ h => h) (Or.inl ⟨by kernel_rfl, ?_⟩) (by assumption) ?_; rotate_left; (focus (intro w _; go_simp; (try with_reducible rfl); done)); (try simp only [Act.put, List.getElem_toArray, List.getElem_cons_succ, List.getElem_cons_zero, List.setIfInBounds_toArray, List.set_cons_zero, List.set_cons_succ])
      clear hHeld
      refine doneS (by kernel_rfl) ?_ _
      go_wp2
      go_ret
      exact ⟨_, rfl, HM4.out, Fr.of_below HB4.out, .inl rfl⟩
    · rw [if_neg h2] at e1
      subst e1
      have e2 : M = byId (L ++ [x]) := by rw [← HE.out.2]; unfold insL; rw [HE.out.1, if_pos rfl]
      subst e2
      have dz : decide (0 ≤ z) = false := decide_eq_false h2
      have HE2 := Lib.hid HE
      clear HE hz3
      go_enter Try.func28, Try.ntmps28
      go_wp2_with fail
      (with_reducible refine HI.out.mono ?_); rintro e w1 ⟨rfl, hw1⟩
      subst hw1
      go_wp2_with fail
      (with_reducible refine (HC0.out _).mono ?_); rintro e w2 ⟨rfl, hb2⟩
      have HB2 := Lib.hid (below_up HB.out hb2)
      have HM2 := Lib.hid (HM.out.below hb2)
      have HQ2 := Lib.hid (block_up HQ.out hb2)
      clear hb2
      go_upto_region 6 with (fail)
      go_cut [21] (fun v21 wx => v21 = .bool false ∧ Below w2.heap.size w2 wx)
      case first =>
        have hd := below_drew1 (w := w2)
        have HM3 := Lib.hid (HM2.out.below hd)
        have HQ3 := Lib.hid (block_up HQ2.out hd)
        have hq3 := HQ3.out
        have s0 := cell_block hq3 0
        simp only [List.getElem?_toArray, List.getElem?_cons_zero] at s0
        refine beginS (S := fun W' => W'.cell? ⟨g, 0, none⟩ = some (.slice A n c) ∧ W'.cell? ⟨W.heap.size, 0, none⟩ = some (.int .i64 x.id)) [] (by kernel_rfl) ⟨(md_at HM3.out).1.1, s0⟩ (fun hHeld0 => ?_)
        have HF3 := Lib.hid (HF.out _ _ (srd_own PtS.cells_len (by decide) HM3.out.row))
        have HD := Lib.hid hd
        generalize (World.drew w2) = W3 at *
        clear hd hq3 s0
        refine takeF (i := 0) (v := ?_) rfl (by kernel_rfl) (fun _ _ _ h => h) (Or.inl ⟨by kernel_rfl, ?_⟩) (by assumption) ?_; rotate_left; (focus (intro w _; go_simp; (try with_reducible rfl); done)); (try simp only [Act.put, List.getElem_toArray, List.getElem_cons_succ, List.getElem_cons_zero, List.setIfInBounds_toArray, List.set_cons_zero, List.set_cons_succ])
        refine takeF (i := 1) (v := ?_) rfl (by kernel_rfl) (fun _ _ _ h => h) (Or.inl ⟨by kernel_rfl, ?_⟩) (by assumption) ?_; rotate_left; (focus (intro w _; go_simp; (try with_reducible rfl); done)); (try simp only [Act.put, List.getElem_toArray, List.getElem_cons_succ, List.getElem_cons_zero, List.setIfInBounds_toArray, List.set_cons_zero, List.set_cons_succ])
        refine takeF (i := 2) (v := ?_) rfl (by kernel_rfl) (fun _ _ _ h => h) (Or.inl ⟨by kernel_rfl, ?_⟩) (by assumption) ?_; rotate_left; (focus (intro w _; go_simp; (try with_reducible rfl); done)); (try simp only [Act.put, List.getElem_toArray, List.getElem_cons_succ, List.getElem_cons_zero, List.setIfInBounds_toArray, List.set_cons_zero, List.set_cons_succ])
        refine takeH (i := 3) (v := ?_) rfl (by kernel_rfl) (fun _ _ _ h => h) (Or.inl ⟨by kernel_rfl, ?_⟩) (by assumption) ?_; rotate_left; (focus (intro w hSw; (try dsimp only at hSw); go_simp; (try with_reducible rfl); done)); (try simp only [Act.put, List.getElem_toArray, List.getElem_cons_succ, List.getElem_cons_zero, List.setIfInBounds_toArray, List.set_cons_zero, List.set_cons_succ])
        refine takeF (i := 4) (v := ?_) rfl (by kernel_rfl) (fun _ _ _ h => h) (Or.inl ⟨by kernel_rfl, ?_⟩) (by assumption) ?_; rotate_left; (focus (intro w _; go_simp; (try with_reducible rfl); done)); (try simp only [Act.put, List.getElem_toArray, List.getElem_cons_succ, List.getElem_cons_zero, List.setIfInBounds_toArray, List.set_cons_zero, List.set_cons_succ])
        refine takeH (i := 5) (v := ?_) rfl (by kernel_rfl) (fun _ _ _ h => h) (Or.inl ⟨by kernel_rfl, ?_⟩) (by assumption) ?_; rotate_left; (focus (intro w hSw; (try dsimp only at hSw); go_simp; (try with_reducible rfl); done)); (try simp only [Act.put, List.getElem_toArray, List.getElem_cons_succ, List.getElem_cons_zero, List.setIfInBounds_toArray, List.set_cons_zero, List.set_cons_succ])
        clear hHeld0
        refine readyS (rs := [6]) (by kernel_rfl) (by simp) ?_
        refine ReadyS.consH rfl (fun K hK => ?_) ReadyS.nil
        (try simp only [List.getElem_toArray, List.getElem_cons_succ, List.getElem_cons_zero])
        go_simp
        (with_reducible refine HF3.out.mono ?_); rintro e W4 ⟨rfl, hb⟩
        have HD4 := Lib.hid (below_up HD.out hb)
        have HM4 := Lib.hid (HM3.out.below hb)
        refine hK.out _ _ ⟨(md_at HM4.out).1.1, ?_⟩ (fun hHeld => ?_)
        · have := cell_block (block_up HQ3.out hb) 0
          simpa using this
        clear hK K hb
        (try simp only [Act.put, List.getElem_toArray, List.getElem_cons_succ, List.getElem_cons_zero, List.setIfInBounds_toArray, List.set_cons_zero, List.set_cons_succ])
        refine takeF (i := 7) (v := ?_) rfl (by kernel_rfl) (fun _ _ _ h => h) (Or.inl ⟨by kernel_rfl, ?_⟩) (by assumption) ?_; rotate_left; (focus (intro w _; go_simp; (try with_reducible rfl); done)); (try simp only [Act.put, List.getElem_toArray, List.getElem_cons_succ, List.getElem_cons_zero, List.setIfInBounds_toArray, List.set_cons_zero, List.set_cons_succ])
        clear hHeld
        refine doneS (by kernel_rfl) ?_ _
        go_wp2
        go_meet
        case rel => exact ⟨rfl, HD4.out⟩
      case rest =>
      obtain ⟨rfl, hbc⟩ := hcut
      have HB4 := Lib.hid (below_up HB2.out hbc)
      have HM4 := Lib.hid (HM2.out.below hbc)
      have HQ4 := Lib.hid (block_up HQ2.out hbc)
      clear hbc HB2 HM2 HQ2
      go_upto_region 8 with (fail)
      have hd := below_drew1 (w := wc)
      have HB3 := Lib.hid (below_up HB4.out hd)
      have HM3 := Lib.hid (HM4.out.below hd)
      have HQ3 := Lib.hid (block_up HQ4.out hd)
      clear hd
      have HSt : Hid (∀ W', Below wc.drew.heap.size wc.drew W' → (W'.cell? ⟨g, 0, none⟩ = some (.slice A n c) ∧ W'.cell? ⟨g, 1, none⟩ = some (.bool true)) ∧ (W'.cell? ⟨W.heap.size, 0, none⟩ = some (.int .i64 x.id) ∧ W'.cell? ⟨W.heap.size, 1, none⟩ = some (.int .u32 (x.x : Nat)) ∧ W'.cell? ⟨W.heap.size, 2, none⟩ = some (.int .u32 (x.y : Nat)) ∧ W'.cell? ⟨W.heap.size, 3, none⟩ = some (.string x.d))) := Lib.hid (fun W' hb => by
        have hq := block_up HQ3.out hb
        have s0 := cell_block hq 0; have s1 := cell_block hq 1; have s2 := cell_block hq 2; have s3 := cell_block hq 3
        simp only [List.getElem?_toArray, List.getElem?_cons_zero, List.getElem?_cons_succ] at s0 s1 s2 s3
        exact ⟨(md_at (HM3.out.below hb)).1, s0, s1, s2, s3⟩)
      have hbs : base ≤ wc.drew.heap.size := Nat.le_trans hb0 HB3.out.size
      have hgs : g < wc.drew.heap.size := (Array.getElem?_eq_some_iff.1 HM3.out.blk).1
      have hws : W.heap.size ≤ wc.drew.heap.size := HB3.out.size
      refine beginS (S := fun W' => (W'.cell? ⟨g, 0, none⟩ = some (.slice A n c) ∧ W'.cell? ⟨g, 1, none⟩ = some (.bool true)) ∧ (W'.cell? ⟨W.heap.size, 0, none⟩ = some (.int .i64 x.id) ∧ W'.cell? ⟨W.heap.size, 1, none⟩ = some (.int .u32 (x.x : Nat)) ∧ W'.cell? ⟨W.heap.size, 2, none⟩ = some (.int .u32 (x.y : Nat)) ∧ W'.cell? ⟨W.heap.size, 3, none⟩ = some (.string x.d))) [12] (by kernel_rfl) (HSt.out _ (Below.refl _ _)) (fun hHeld0 => ?_)
      generalize (World.drew wc) = W3 at *
      have HCl := Lib.hid (fun W' (hb : Below W3.heap.size W3 W') => pclone_ok (.slice A n c) L W' (srd_own PtS.cells_len (by decide) (HM3.out.below hb).row) (by omega))
      refine takeF (i := 0) (v := ?_) rfl (by kernel_rfl) (fun _ _ _ h => h) (Or.inl ⟨by kernel_rfl, ?_⟩) (by assumption) ?_; rotate_left; (focus (intro w _; go_simp; (try with_reducible rfl); done)); (try simp only [Act.put, List.getElem_toArray, List.getElem_cons_succ, List.getElem_cons_zero, List.setIfInBounds_toArray, List.set_cons_zero, List.set_cons_succ])
      refine takeF (i := 1) (v := ?_) rfl (by kernel_rfl) (fun _ _ _ h => h) (Or.inl ⟨by kernel_rfl, ?_⟩) (by assumption) ?_; rotate_left; (focus (intro w _; go_simp; (try with_reducible rfl); done)); (try simp only [Act.put, List.getElem_toArray, List.getElem_cons_succ, List.getElem_cons_zero, List.setIfInBounds_toArray, List.set_cons_zero, List.set_cons_succ])
      refine takeF (i := 2) (v := ?_) rfl (by kernel_rfl) (fun _ _ _ h => h) (Or.inl ⟨by kernel_rfl, ?_⟩) (by assumption) ?_; rotate_left; (focus (intro w _; go_simp; (try with_reducible rfl); done)); (try simp only [Act.put, List.getElem_toArray, List.getElem_cons_succ, List.getElem_cons_zero, List.setIfInBounds_toArray, List.set_cons_zero, List.set_cons_succ])
      refine takeF (i := 3) (v := ?_) rfl (by kernel_rfl) (fun _ _ _ h => h) (Or.inl ⟨by kernel_rfl, ?_⟩) (by assumption) ?_; rotate_left; (focus (intro w _; go_simp; (try with_reducible rfl); done)); (try simp only [Act.put, List.getElem_toArray, List.getElem_cons_succ, List.getElem_cons_zero, List.setIfInBounds_toArray, List.set_cons_zero, List.set_cons_succ])
      refine takeH (i := 4) (v := ?_) rfl (by kernel_rfl) (fun _ _ _ h => h) (Or.inl ⟨by kernel_rfl, ?_⟩) (by assumption) ?_; rotate_left; (focus (intro w hSw; (try dsimp only at hSw); go_simp; (try with_reducible rfl); done)); (try simp only [Act.put, List.getElem_toArray, List.getElem_cons_succ, List.getElem_cons_zero, List.setIfInBounds_toArray, List.set_cons_zero, List.set_cons_succ])
      refine takeH (i := 6) (v := ?_) rfl (by kernel_rfl) (fun _ _ _ h => h) (Or.inl ⟨by kernel_rfl, ?_⟩) (by assumption) ?_; rotate_left; (focus (intro w hSw; (try dsimp only at hSw); go_simp; (try with_reducible rfl); done)); (try simp only [Act.put, List.getElem_toArray, List.getElem_cons_succ, List.getElem_cons_zero, List.setIfInBounds_toArray, List.set_cons_zero, List.set_cons_succ])
      clear hHeld0
      refine readyS (rs := [5, 7]) (by kernel_rfl) (by simp) ?_
      refine ReadyS.consH rfl (fun K hK => ?_) (ReadyS.consH rfl (fun K hK => ?_) ReadyS.nil)
      (try simp only [List.getElem_toArray, List.getElem_cons_succ, List.getElem_cons_zero])
      · go_simp
        (with_reducible refine (HCl.out _ (Below.refl _ _)).mono ?_); rintro e W5 ⟨v5, rfl, ho5, hb5⟩
        have HB5 := Lib.hid hb5
        have H5 := Lib.hid ho5
        clear ho5 hb5
        obtain ⟨A5, c5, rfl, _, _, _, _⟩ := own_rd H5.out
        refine hK.out _ _ (HSt.out _ HB5.out) (fun hHeld0 => ?_)
        clear hK K hHeld0
        (try simp only [Act.put, List.getElem_toArray, List.getElem_cons_succ, List.getElem_cons_zero, List.setIfInBounds_toArray, List.set_cons_zero, List.set_cons_succ])
        refine readyS (rs := [7]) (by kernel_rfl) (by simp) ?_
        refine ReadyS.consH rfl (fun K hK => ?_) ReadyS.nil
        (try simp only [List.getElem_toArray, List.getElem_cons_succ, List.getElem_cons_zero])
        go_simp
        have HB7 := Lib.hid (below_up HB5.out (below_alloc1 W5 (.cells #[.int .i64 x.id, .int .u32 (x.x : Nat), .int .u32 (x.y : Nat), .string x.d] 56)))
        have H7 := Lib.hid (rd_new W5 #[.int .i64 x.id, .int .u32 (x.x : Nat), .int .u32 (x.y : Nat), .string x.d] 56 ([x].flatMap PtS.cells) rfl)
        have H5' := Lib.hid (own_below H5.out (below_alloc1 W5 (.cells #[.int .i64 x.id, .int .u32 (x.x : Nat), .int .u32 (x.y : Nat), .string x.d] 56)))
        refine hK.out _ _ (HSt.out _ HB7.out) (fun hHeld0 => ?_)
        clear hK K hHeld0 H5
        generalize (World.alloc W5 _) = W7 at *
        (try simp only [Act.put, List.getElem_toArray, List.getElem_cons_succ, List.getElem_cons_zero, List.setIfInBounds_toArray, List.set_cons_zero, List.set_cons_succ])
        refine readyS (rs := [8]) (by kernel_rfl) (by simp) ?_
        refine ReadyS.consH rfl (fun K hK => ?_) ReadyS.nil
        (try simp only [List.getElem_toArray, List.getElem_cons_succ, List.getElem_cons_zero])
        rw [if_pos (by kernel_rfl)]
        refine wp_app _ _ 49 (by rfl) W3.heap.size 56 (.agg #[.int .i64 0, .int .u32 0, .int .u32 0, .string ⟨#[]⟩]) 4 32 Try.underlying49 info_pt4 rfl (by decide) (by decide) (.slice A5 L.length c5) L.length (L.flatMap PtS.cells) (by rfl) _ 1 1 ([x].flatMap PtS.cells) (by rfl) H5'.out rfl H7.out (flat_one PtS.cells_one _) (by omega) HB7.out.size ?_
        intro A8 c8 W8 hown hgrow hat
        have HB8 := Lib.hid (below_grown HB7.out hgrow (fun k e => own_base H5'.out k e))
        have HS8 := Lib.hid (psort_ok (.slice A8 (L.length + 1) c8) (L ++ [x]) W8 (by
          have h0 : W8.ownsRow W3.heap.size 56 4 (.slice A8 (L.length + 1) c8) (L.length + 1) ((L ++ [x]).flatMap PtS.cells) := by rw [List.flatMap_append]; exact hown
          exact srd_own PtS.cells_len (by decide) h0) (by rw [List.length_append, List.length_singleton]; omega))
        clear hown hgrow hat
        refine hK.out _ _ (HSt.out _ HB8.out) (fun hHeld0 => ?_)
        clear hK K
        (try simp only [Act.put, List.getElem_toArray, List.getElem_cons_succ, List.getElem_cons_zero, List.setIfInBounds_toArray, List.set_cons_zero, List.set_cons_succ])
        clear H5' H7
        refine readyS (rs := [9]) (by kernel_rfl) (by simp) ?_
        refine ReadyS.consH rfl (fun K hK => ?_) ReadyS.nil
        (try simp only [List.getElem_toArray, List.getElem_cons_succ, List.getElem_cons_zero])
        go_simp
        (with_reducible refine HS8.out.mono ?_); rintro e W9 ⟨v9, rfl, ho9, hb9⟩
        have HB9 := Lib.hid (below_up HB8.out hb9)
        have HO9 := Lib.hid (own_lower ho9 (base' := W3.heap.size) HB8.out.size)
        clear ho9 hb9 hHeld0
        rw [show (L ++ [x]).length = L.length + 1 by simp] at HO9
        obtain ⟨A9, c9, rfl, _, _, _, _⟩ := own_rd HO9.out
        refine hK.out _ _ (HSt.out _ HB9.out) (fun hHeld0 => ?_)
        clear hK K
        (try simp only [Act.put, List.getElem_toArray, List.getElem_cons_succ, List.getElem_cons_zero, List.setIfInBounds_toArray, List.set_cons_zero, List.set_cons_succ])
        refine takeF (i := 10) (v := ?_) rfl (by kernel_rfl) (fun _ _ _ h => h) (Or.inl ⟨by kernel_rfl, ?_⟩) (by assumption) ?_; rotate_left; (focus (intro w _; go_simp; (try with_reducible rfl); done)); (try simp only [Act.put, List.getElem_toArray, List.getElem_cons_succ, List.getElem_cons_zero, List.setIfInBounds_toArray, List.set_cons_zero, List.set_cons_succ])
        refine takeF (i := 11) (v := ?_) rfl (by kernel_rfl) (fun _ _ _ h => h) (Or.inl ⟨by kernel_rfl, ?_⟩) (by assumption) ?_; rotate_left; (focus (intro w _; go_simp; (try with_reducible rfl); done)); (try simp only [Act.put, List.getElem_toArray, List.getElem_cons_succ, List.getElem_cons_zero, List.setIfInBounds_toArray, List.set_cons_zero, List.set_cons_succ])
        have hM9 := HM3.out.below HB9.out
        obtain ⟨⟨t0, t1⟩, tz⟩ := md_at hM9
        have ho9 : W9.ownsRow W3.heap.size 56 4 (.slice A9 (L.length + 1) c9) (byId (L ++ [x])).length ((byId (L ++ [x])).flatMap PtS.cells) := by
          rw [byId_length, List.length_append, List.length_singleton]; exact HO9.out
        have HNew := Lib.hid (md_store (u := .slice A9 (L.length + 1) c9) hM9 (fun e => by have := own_base ho9 g e; omega) (own_lower ho9 (base' := base) (by omega)))
        have HFr := Lib.hid ((Fr.of_below (S := fun k => k = g) (below_up HB3.out HB9.out)).set (p := ⟨g, 0, none⟩) (fun _ => rfl) (.slice A9 (L.length + 1) c9))
        have HOb := Lib.hid (fun k (e : (Value.slice A9 (L.length + 1) c9).ownBlock = some k) => own_base ho9 k e)
        clear hM9 ho9 hHeld0
        refine readyS (rs := [12]) (by kernel_rfl) (by simp) ?_
        refine ReadyS.consP rfl (by kernel_rfl) (fun K hK => ?_) ReadyS.nil
        (try simp only [List.getElem_toArray, List.getElem_cons_succ, List.getElem_cons_zero])
        go_simp
        refine hK.out _ (W9.setCell ⟨g, 0, none⟩ (.slice A9 (L.length + 1) c9)) ?_
        clear hK K t0 t1 tz
        generalize W9.setCell ⟨g, 0, none⟩ (.slice A9 (L.length + 1) c9) = W10 at *
        refine doneS (by kernel_rfl) ?_ _
        go_wp2
        go_ret
        exact ⟨_, rfl, HNew.out, HFr.out, .inr (fun k e => Nat.le_trans (by omega) (HOb.out k e))⟩
      · go_simp
        have HB6 := Lib.hid (below_alloc1 W3 (.cells #[.int .i64 x.id, .int .u32 (x.x : Nat), .int .u32 (x.y : Nat), .string x.d] 56))
        have H6 := Lib.hid (rd_new W3 #[.int .i64 x.id, .int .u32 (x.x : Nat), .int .u32 (x.y : Nat), .string x.d] 56 ([x].flatMap PtS.cells) rfl)
        refine hK.out _ _ (HSt.out _ HB6.out) (fun hHeld0 => ?_)
        clear hK K hHeld0
        (try simp only [Act.put, List.getElem_toArray, List.getElem_cons_succ, List.getElem_cons_zero, List.setIfInBounds_toArray, List.set_cons_zero, List.set_cons_succ])
        have HB6s : (World.alloc W3 (.cells #[.int .i64 x.id, .int .u32 (x.x : Nat), .int .u32 (x.y : Nat), .string x.d] 56)).heap.size = W3.heap.size + 1 := by unfold World.alloc; simp
        have HZ := Lib.hid HB6s
        clear HB6s
        generalize hW6 : (World.alloc W3 _) = W6 at *
        clear hW6
        refine readyS (rs := [5]) (by kernel_rfl) (by simp) ?_
        refine ReadyS.consH rfl (fun K hK => ?_) ReadyS.nil
        (try simp only [List.getElem_toArray, List.getElem_cons_succ, List.getElem_cons_zero])
        go_simp
        (with_reducible refine (HCl.out _ HB6.out).mono ?_); rintro e W5 ⟨v5, rfl, ho5, hb5⟩
        have HB7 := Lib.hid (below_up HB6.out hb5)
        have H5' := Lib.hid (own_lower ho5 (base' := W3.heap.size) (by have := HZ.out; omega))
        have H7 := Lib.hid (H6.out.below hb5)
        clear ho5 hb5
        obtain ⟨A5, c5, rfl, _, _, _, _⟩ := own_rd H5'.out
        refine hK.out _ _ (HSt.out _ HB7.out) (fun hHeld0 => ?_)
        clear hK K hHeld0
        (try simp only [Act.put, List.getElem_toArray, List.getElem_cons_succ, List.getElem_cons_zero, List.setIfInBounds_toArray, List.set_cons_zero, List.set_cons_succ])
        refine readyS (rs := [8]) (by kernel_rfl) (by simp) ?_
        refine ReadyS.consH rfl (fun K hK => ?_) ReadyS.nil
        (try simp only [List.getElem_toArray, List.getElem_cons_succ, List.getElem_cons_zero])
        rw [if_pos (by kernel_rfl)]
        refine wp_app _ _ 49 (by rfl) W3.heap.size 56 (.agg #[.int .i64 0, .int .u32 0, .int .u32 0, .string ⟨#[]⟩]) 4 32 Try.underlying49 info_pt4 rfl (by decide) (by decide) (.slice A5 L.length c5) L.length (L.flatMap PtS.cells) (by rfl) _ 1 1 ([x].flatMap PtS.cells) (by rfl) H5'.out rfl H7.out (flat_one PtS.cells_one _) (by omega) HB7.out.size ?_
        intro A8 c8 W8 hown hgrow hat
        have HB8 := Lib.hid (below_grown HB7.out hgrow (fun k e => own_base H5'.out k e))
        have HS8 := Lib.hid (psort_ok (.slice A8 (L.length + 1) c8) (L ++ [x]) W8 (by
          have h0 : W8.ownsRow W3.heap.size 56 4 (.slice A8 (L.length + 1) c8) (L.length + 1) ((L ++ [x]).flatMap PtS.cells) := by rw [List.flatMap_append]; exact hown
          exact srd_own PtS.cells_len (by decide) h0) (by rw [List.length_append, List.length_singleton]; omega))
        clear hown hgrow hat
        refine hK.out _ _ (HSt.out _ HB8.out) (fun hHeld0 => ?_)
        clear hK K
        (try simp only [Act.put, List.getElem_toArray, List.getElem_cons_succ, List.getElem_cons_zero, List.setIfInBounds_toArray, List.set_cons_zero, List.set_cons_succ])
        clear H5' H7
        refine readyS (rs := [9]) (by kernel_rfl) (by simp) ?_
        refine ReadyS.consH rfl (fun K hK => ?_) ReadyS.nil
        (try simp only [List.getElem_toArray, List.getElem_cons_succ, List.getElem_cons_zero])
        go_simp
        (with_reducible refine HS8.out.mono ?_); rintro e W9 ⟨v9, rfl, ho9, hb9⟩
        have HB9 := Lib.hid (below_up HB8.out hb9)
        have HO9 := Lib.hid (own_lower ho9 (base' := W3.heap.size) HB8.out.size)
        clear ho9 hb9 hHeld0
        rw [show (L ++ [x]).length = L.length + 1 by simp] at HO9
        obtain ⟨A9, c9, rfl, _, _, _, _⟩ := own_rd HO9.out
        refine hK.out _ _ (HSt.out _ HB9.out) (fun hHeld0 => ?_)
        clear hK K
        (try simp only [Act.put, List.getElem_toArray, List.getElem_cons_succ, List.getElem_cons_zero, List.setIfInBounds_toArray, List.set_cons_zero, List.set_cons_succ])
        refine takeF (i := 10) (v := ?_) rfl (by kernel_rfl) (fun _ _ _ h => h) (Or.inl ⟨by kernel_rfl, ?_⟩) (by assumption) ?_; rotate_left; (focus (intro w _; go_simp; (try with_reducible rfl); done)); (try simp only [Act.put, List.getElem_toArray, List.getElem_cons_succ, List.getElem_cons_zero, List.setIfInBounds_toArray, List.set_cons_zero, List.set_cons_succ])
        refine takeF (i := 11) (v := ?_) rfl (by kernel_rfl) (fun _ _ _ h => h) (Or.inl ⟨by kernel_rfl, ?_⟩) (by assumption) ?_; rotate_left; (focus (intro w _; go_simp; (try with_reducible rfl); done)); (try simp only [Act.put, List.getElem_toArray, List.getElem_cons_succ, List.getElem_cons_zero, List.setIfInBounds_toArray, List.set_cons_zero, List.set_cons_succ])
        have hM9 := HM3.out.below HB9.out
        obtain ⟨⟨t0, t1⟩, tz⟩ := md_at hM9
        have ho9 : W9.ownsRow W3.heap.size 56 4 (.slice A9 (L.length + 1) c9) (byId (L ++ [x])).length ((byId (L ++ [x])).flatMap PtS.cells) := by
          rw [byId_length, List.length_append, List.length_singleton]; exact HO9.out
        have HNew := Lib.hid (md_store (u := .slice A9 (L.length + 1) c9) hM9 (fun e => by have := own_base ho9 g e; omega) (own_lower ho9 (base' := base) (by omega)))
        have HFr := Lib.hid ((Fr.of_below (S := fun k => k = g) (below_up HB3.out HB9.out)).set (p := ⟨g, 0, none⟩) (fun _ => rfl) (.slice A9 (L.length + 1) c9))
        have HOb := Lib.hid (fun k (e : (Value.slice A9 (L.length + 1) c9).ownBlock = some k) => own_base ho9 k e)
        clear hM9 ho9 hHeld0
        refine readyS (rs := [12]) (by kernel_rfl) (by simp) ?_
        refine ReadyS.consP rfl (by kernel_rfl) (fun K hK => ?_) ReadyS.nil
        (try simp only [List.getElem_toArray, List.getElem_cons_succ, List.getElem_cons_zero])
        go_simp
        refine hK.out _ (W9.setCell ⟨g, 0, none⟩ (.slice A9 (L.length + 1) c9)) ?_
        clear hK K t0 t1 tz
        generalize W9.setCell ⟨g, 0, none⟩ (.slice A9 (L.length + 1) c9) = W10 at *
        refine doneS (by kernel_rfl) ?_ _
        go_wp2
        go_ret
        exact ⟨_, rfl, HNew.out, HFr.out, .inr (fun k e => Nat.le_trans (by omega) (HOb.out k e))⟩
  · have e1 : ec = x.chk := by rw [← HE.out.1]; unfold insC; rw [if_pos h1]
    have e2 : M = L := by rw [← HE.out.2]; unfold insL; rw [HE.out.1, e1, if_neg h1]
    subst e1
    subst e2
    have hne : (x.chk != 0) = true := by rw [bne_iff_ne]; exact h1
    obtain ⟨r, hr⟩ : ∃ r, x.chk = r := ⟨_, rfl⟩
    simp only [hr] at HC
    rw [hr] at hne ⊢
    have HE2 := Lib.hid HE
    clear HE h1 hr
    go_enter Try.func28, Try.ntmps28
    go_wp2_with fail
    (with_reducible refine HI.out.mono ?_); rintro e w1 ⟨rfl, hw1⟩
    subst hw1
    go_wp2_with fail
    (with_reducible refine (HC.out _).mono ?_); rintro e w2 ⟨rfl, hb2⟩
    have HB2 := Lib.hid (below_up HB.out hb2)
    have HM2 := Lib.hid (HM.out.below hb2)
    clear hb2
    go_wp2
    go_ret
    exact ⟨_, rfl, HM2.out, Fr.of_below HB2.out, .inl rfl⟩
set_option maxHeartbeats 2000000 in
theorem delete_ok {W : World} {base g : Nat} {v : Value} {L : List PtS} (h : MdV W base g v L) (hl : L.length ≤ 1000000) (id : Int) :
    Calls Try.prog 29 #[.pointer (some ⟨g, 0, none⟩), .int .i64 id] W fun e w' => ∃ v', e = .returned (.int .i64 (plE (at_ L id))) ∧ MdV w' base g v' (if at_ L id < 0 then L else L.eraseIdx (at_ L id).toNat) ∧ Fr (fun k => k = g ∨ v.ownBlock = some k) W w' ∧ v'.ownBlock = v.ownBlock := by
  have HI := Lib.hid (place_ok h (by omega) id)
  have HM := Lib.hid h
  have hlt : 0 ≤ at_ L id → (at_ L id).toNat < L.length := at_lt L id
  obtain ⟨z, hz⟩ : ∃ z, at_ L id = z := ⟨_, rfl⟩
  rw [hz] at HI hlt ⊢
  unfold plI plE at HI
  unfold plE
  clear hz h
  by_cases hn : z < 0
  · rw [if_pos hn, if_pos hn]
    rw [if_pos hn, if_pos hn] at HI
    clear hlt hn
    go_enter Try.func29, Try.ntmps29
    go_wp2_with fail
    (with_reducible refine HI.out.mono ?_); rintro e w1 ⟨rfl, hb⟩
    have H1 := Lib.hid (HM.out.below hb)
    have HF := Lib.hid (Fr.of_below (S := fun k => k = g ∨ v.ownBlock = some k) hb)
    clear hb
    go_wp2
    go_ret
    exact ⟨v, rfl, H1.out, HF.out, rfl⟩
  · rw [if_neg hn, if_neg hn]
    rw [if_neg hn, if_neg hn] at HI
    obtain ⟨k, rfl⟩ := Int.eq_ofNat_of_zero_le (show 0 ≤ z by omega)
    have hk := hlt (by omega)
    rw [Int.toNat_natCast] at hk ⊢
    clear hlt hn
    have hlk : (L.eraseIdx k).length = L.length - 1 := List.length_eraseIdx_of_lt hk
    have HLk := Lib.hid hlk
    clear hlk
    rcases HM.out.row.2 with ⟨_, h0⟩ | ⟨r, cap, cur, rfl, hbg, _⟩
    · omega
    · have bk : (k : Int) < L.length := by omega
      have kJ : IntKind.i64.wrap ((k : Int) + 1) = ((k + 1 : Nat) : Int) := by rw [IntWalk.i64_in _ (by omega)]; omega
      have kJ2 : (k : Int) + 1 = ((k + 1 : Nat) : Int) := by omega
      obtain ⟨J, hJ⟩ : ∃ J, k + 1 = J := ⟨_, rfl⟩
      have HJ := Lib.hid hJ
      rw [hJ] at kJ kJ2
      clear hJ
      go_enter Try.func29, Try.ntmps29
      go_wp2_with fail
      (with_reducible refine HI.out.mono ?_); rintro e w1 ⟨rfl, hb⟩
      have H1 := Lib.hid (HM.out.below hb)
      have HF1 := Lib.hid (Fr.of_below (S := fun k => k = g ∨ (Value.slice (some ⟨r, 0, none⟩) L.length cap).ownBlock = some k) hb)
      have HD := Lib.hid (pdelete_ok L k hk (by omega) w1 H1.out.row)
      rw [HJ.out] at HD
      obtain ⟨⟨q0, q1⟩, qz⟩ := md_at H1.out
      have hne : r ≠ g := fun e => by
        subst e
        exact own_ne_block H1.out.row H1.out.blk (by decide) rfl
      clear hb
      go_wp2_with fail
      (with_reducible refine HD.out.mono ?_); rintro e w2 ⟨rfl, ho, hf⟩
      have hblk := blk_fr H1.out.blk hf (fun e => hne e.symm)
      clear q0 q1 qz
      have q0 := cell_block hblk 0; have qz := free_block hblk
      simp only [List.getElem?_toArray, List.getElem?_cons_zero] at q0
      have HNew : Hid (MdV (w2.setCell ⟨g, 0, none⟩ (.slice (some ⟨r, 0, none⟩) (L.length - 1) cap)) base g (.slice (some ⟨r, 0, none⟩) (L.length - 1) cap) (L.eraseIdx k)) := Lib.hid ⟨by
        have := blk_set hblk 0 (.slice (some ⟨r, 0, none⟩) (L.length - 1) cap)
        simpa using this, by rw [HLk.out]; exact own_set ho (by simp [Value.ownBlock]; exact hne) _⟩
      have HFr := Lib.hid (((HF1.out.trans hf (fun k _ h => .inr (by rw [h]; rfl))).set (p := ⟨g, 0, none⟩) (fun _ => .inl rfl) (.slice (some ⟨r, 0, none⟩) (L.length - 1) cap)))
      clear ho hf hblk
      go_wp2
      go_ret
      exact ⟨_, rfl, HNew.out, HFr.out, rfl⟩
/-- A point at another place. -/
def mvd (p : PtS) (x y : Nat) : PtS := ⟨p.id, x, y, p.d⟩
theorem flat_mv : ∀ (l : List PtS) (i : Nat) (h : i < l.length) (x y : Nat), (((l.flatMap PtS.cells).set (i * 4 + 1) (.int .u32 (x : Nat))).set (i * 4 + 2) (.int .u32 (y : Nat))) = (l.set i (mvd l[i] x y)).flatMap PtS.cells
  | a :: l, 0, _, x, y => by simp [List.flatMap_cons, PtS.cells, mvd]
  | a :: l, i + 1, h, x, y => by
    have ih := flat_mv l i (by simpa using h) x y
    rw [List.set_cons_succ, List.flatMap_cons, List.flatMap_cons, List.getElem_cons_succ, ← ih]
    have e : (i + 1) * 4 = i * 4 + 1 + 1 + 1 + 1 := by omega
    rw [e, show i * 4 + 1 + 1 + 1 + 1 + 1 = (i * 4 + 1) + 1 + 1 + 1 + 1 from rfl, show i * 4 + 1 + 1 + 1 + 1 + 2 = (i * 4 + 2) + 1 + 1 + 1 + 1 from rfl]
    simp only [PtS.cells, List.cons_append, List.nil_append, List.set_cons_succ]
theorem own_mv {W : World} {base r n cap : Nat} {l : List PtS} (h : W.ownsRow base 56 4 (.slice (some ⟨r, 0, none⟩) n cap) n (l.flatMap PtS.cells)) (i : Nat) (hi : i < l.length) (x y : Nat) :
    ((W.setCell ⟨r, i * 4 + 1, none⟩ (.int .u32 (x : Nat))).setCell ⟨r, i * 4 + 2, none⟩ (.int .u32 (y : Nat))).ownsRow base 56 4 (.slice (some ⟨r, 0, none⟩) n cap) n ((l.set i (mvd l[i] x y)).flatMap PtS.cells) := by
  have h1 := (h.stored (i * 4 + 1) (.int .u32 (x : Nat))).1
  have h2 := (h1.stored (i * 4 + 2) (.int .u32 (y : Nat))).1
  rw [flat_mv l i hi] at h2
  exact h2
set_option maxHeartbeats 2000000 in
theorem move_ok {W : World} {base g : Nat} {v : Value} {L : List PtS} (h : MdV W base g v L) (hl : L.length ≤ 1000000) (id : Int) (x y : Nat) :
    Calls Try.prog 30 #[.pointer (some ⟨g, 0, none⟩), .int .i64 id, .int .u32 (x : Nat), .int .u32 (y : Nat)] W fun e w' => e = .returned (.int .i64 (plE (at_ L id))) ∧ MdV w' base g v (if at_ L id < 0 then L else L.set (at_ L id).toNat (mvd (L.getD (at_ L id).toNat PtS.zero) x y)) ∧ Fr (fun k => v.ownBlock = some k) W w' := by
  have HI := Lib.hid (place_ok h (by omega) id)
  have HM := Lib.hid h
  have hlt : 0 ≤ at_ L id → (at_ L id).toNat < L.length := at_lt L id
  obtain ⟨z, hz⟩ : ∃ z, at_ L id = z := ⟨_, rfl⟩
  rw [hz] at HI hlt ⊢
  unfold plI plE at HI
  unfold plE
  clear hz h
  by_cases hn : z < 0
  · rw [if_pos hn, if_pos hn]
    rw [if_pos hn, if_pos hn] at HI
    clear hlt hn
    go_enter Try.func30, Try.ntmps30
    go_wp2_with fail
    (with_reducible refine HI.out.mono ?_); rintro e w1 ⟨rfl, hb⟩
    have H1 := Lib.hid (HM.out.below hb)
    have HF := Lib.hid (Fr.of_below (S := fun k => v.ownBlock = some k) hb)
    clear hb
    go_wp2
    go_ret
    exact ⟨rfl, H1.out, HF.out⟩
  · rw [if_neg hn, if_neg hn]
    rw [if_neg hn, if_neg hn] at HI
    obtain ⟨k, rfl⟩ := Int.eq_ofNat_of_zero_le (show 0 ≤ z by omega)
    have hk := hlt (by omega)
    rw [Int.toNat_natCast] at hk ⊢
    rw [show L.getD k PtS.zero = L[k] by simp [hk]]
    clear hlt hn
    rcases HM.out.row.2 with ⟨_, h0⟩ | ⟨r, cap, cur, rfl, hbg, _⟩
    · omega
    · have bk : (k : Int) < L.length := by omega
      have kw : IntKind.i64.wrap (k : Int) = (k : Int) := by rw [IntWalk.i64_in _ (by omega)]
      have HX : Hid (∀ (W' : World) (hb : W'.ownsRow base 56 4 (.slice (some ⟨r, 0, none⟩) L.length cap) L.length (L.flatMap PtS.cells)), ((W'.setCell ⟨r, k * 4 + 1, none⟩ (.int .u32 (x : Nat))).setCell ⟨r, k * 4 + 2, none⟩ (.int .u32 (y : Nat))).ownsRow base 56 4 (.slice (some ⟨r, 0, none⟩) L.length cap) L.length ((L.set k (mvd L[k] x y)).flatMap PtS.cells)) := Lib.hid (fun W' hb => own_mv hb k hk x y)
      obtain ⟨M, hM⟩ : ∃ M, L.set k (mvd L[k] x y) = M := ⟨_, rfl⟩
      have hML : M.length = L.length := by rw [← hM, List.length_set]
      rw [hM] at HX ⊢
      have HML := Lib.hid hML
      clear hM hML
      go_enter Try.func30, Try.ntmps30
      go_wp2_with fail
      (with_reducible refine HI.out.mono ?_); rintro e w1 ⟨rfl, hb⟩
      have hd := below_up hb (below_drew1 (w := w1))
      have H1 := Lib.hid (HM.out.below hd)
      have HF1 := Lib.hid (Fr.of_below (S := fun k => (Value.slice (some ⟨r, 0, none⟩) L.length cap).ownBlock = some k) hd)
      have hne : r ≠ g := fun e => by
        subst e
        exact own_ne_block H1.out.row H1.out.blk (by decide) rfl
      clear hb hd
      go_upto_region 3 with (fail)
      have HNew : Hid (MdV ((w1.drew.setCell ⟨r, k * 4 + 1, none⟩ (.int .u32 (x : Nat))).setCell ⟨r, k * 4 + 2, none⟩ (.int .u32 (y : Nat))) base g (.slice (some ⟨r, 0, none⟩) L.length cap) M) := Lib.hid ⟨blk_far (blk_far H1.out.blk (fun e => hne e.symm) _) (fun e => hne e.symm) _, by rw [HML.out]; exact HX.out _ H1.out.row⟩
      have HFr := Lib.hid ((HF1.out.set (p := ⟨r, k * 4 + 1, none⟩) (fun _ => rfl) (.int .u32 (x : Nat))).set (p := ⟨r, k * 4 + 2, none⟩) (fun _ => rfl) (.int .u32 (y : Nat)))
      obtain ⟨⟨c0, c1, c2, c3⟩, fz⟩ := own_at4 H1.out.row k hk
      generalize L[k] = x0 at *
      refine beginS (S := fun W' => W'.cell? ⟨g, 0, none⟩ = some (.slice (some ⟨r, 0, none⟩) L.length cap)) [14, 17] (by kernel_rfl) (md_at H1.out).1.1 (fun hHeld0 => ?_)
      generalize (World.drew w1) = W3 at *
      refine takeF (i := 0) (v := ?_) rfl (by kernel_rfl) (fun _ _ _ h => h) (Or.inl ⟨by kernel_rfl, ?_⟩) (by assumption) ?_; rotate_left; (focus (intro w _; go_simp; (try with_reducible rfl); done)); (try simp only [Act.put, List.getElem_toArray, List.getElem_cons_succ, List.getElem_cons_zero, List.setIfInBounds_toArray, List.set_cons_zero, List.set_cons_succ])
      refine takeF (i := 1) (v := ?_) rfl (by kernel_rfl) (fun _ _ _ h => h) (Or.inl ⟨by kernel_rfl, ?_⟩) (by assumption) ?_; rotate_left; (focus (intro w _; go_simp; (try with_reducible rfl); done)); (try simp only [Act.put, List.getElem_toArray, List.getElem_cons_succ, List.getElem_cons_zero, List.setIfInBounds_toArray, List.set_cons_zero, List.set_cons_succ])
      refine takeF (i := 2) (v := ?_) rfl (by kernel_rfl) (fun _ _ _ h => h) (Or.inl ⟨by kernel_rfl, ?_⟩) (by assumption) ?_; rotate_left; (focus (intro w _; go_simp; (try with_reducible rfl); done)); (try simp only [Act.put, List.getElem_toArray, List.getElem_cons_succ, List.getElem_cons_zero, List.setIfInBounds_toArray, List.set_cons_zero, List.set_cons_succ])
      refine takeH (i := 3) (v := ?_) rfl (by kernel_rfl) (fun _ _ _ h => h) (Or.inl ⟨by kernel_rfl, ?_⟩) (by assumption) ?_; rotate_left; (focus (intro w hSw; (try dsimp only at hSw); go_simp; (try with_reducible rfl); done)); (try simp only [Act.put, List.getElem_toArray, List.getElem_cons_succ, List.getElem_cons_zero, List.setIfInBounds_toArray, List.set_cons_zero, List.set_cons_succ])
      refine takeF (i := 4) (v := ?_) rfl (by kernel_rfl) (fun _ _ _ h => h) (Or.inl ⟨by kernel_rfl, ?_⟩) (by assumption) ?_; rotate_left; (focus (intro w _; go_simp; (try with_reducible rfl); done)); (try simp only [Act.put, List.getElem_toArray, List.getElem_cons_succ, List.getElem_cons_zero, List.setIfInBounds_toArray, List.set_cons_zero, List.set_cons_succ])
      refine takeF (i := 5) (v := ?_) rfl (by kernel_rfl) (fun _ _ _ h => h) (Or.inl ⟨by kernel_rfl, ?_⟩) (by assumption) ?_; rotate_left; (focus (intro w _; go_simp; (try with_reducible rfl); done)); (try simp only [Act.put, List.getElem_toArray, List.getElem_cons_succ, List.getElem_cons_zero, List.setIfInBounds_toArray, List.set_cons_zero, List.set_cons_succ])
      refine takeF (i := 6) (v := ?_) rfl (by kernel_rfl) (fun _ _ _ h => h) (Or.inl ⟨by kernel_rfl, ?_⟩) (by assumption) ?_; rotate_left; (focus (intro w _; go_simp; (try with_reducible rfl); done)); (try simp only [Act.put, List.getElem_toArray, List.getElem_cons_succ, List.getElem_cons_zero, List.setIfInBounds_toArray, List.set_cons_zero, List.set_cons_succ])
      refine takeF (i := 7) (v := ?_) rfl (by kernel_rfl) (fun _ _ _ h => h) (Or.inl ⟨by kernel_rfl, ?_⟩) (by assumption) ?_; rotate_left; (focus (intro w _; go_simp; (try with_reducible rfl); done)); (try simp only [Act.put, List.getElem_toArray, List.getElem_cons_succ, List.getElem_cons_zero, List.setIfInBounds_toArray, List.set_cons_zero, List.set_cons_succ])
      refine takeH (i := 8) (v := ?_) rfl (by kernel_rfl) (fun _ _ _ h => h) (Or.inl ⟨by kernel_rfl, ?_⟩) (by assumption) ?_; rotate_left; (focus (intro w hSw; (try dsimp only at hSw); go_simp; (try with_reducible rfl); done)); (try simp only [Act.put, List.getElem_toArray, List.getElem_cons_succ, List.getElem_cons_zero, List.setIfInBounds_toArray, List.set_cons_zero, List.set_cons_succ])
      refine takeF (i := 9) (v := ?_) rfl (by kernel_rfl) (fun _ _ _ h => h) (Or.inl ⟨by kernel_rfl, ?_⟩) (by assumption) ?_; rotate_left; (focus (intro w _; go_simp; (try with_reducible rfl); done)); (try simp only [Act.put, List.getElem_toArray, List.getElem_cons_succ, List.getElem_cons_zero, List.setIfInBounds_toArray, List.set_cons_zero, List.set_cons_succ])
      refine takeF (i := 10) (v := ?_) rfl (by kernel_rfl) (fun _ _ _ h => h) (Or.inl ⟨by kernel_rfl, ?_⟩) (by assumption) ?_; rotate_left; (focus (intro w _; go_simp; (try with_reducible rfl); done)); (try simp only [Act.put, List.getElem_toArray, List.getElem_cons_succ, List.getElem_cons_zero, List.setIfInBounds_toArray, List.set_cons_zero, List.set_cons_succ])
      refine takeF (i := 11) (v := ?_) rfl (by kernel_rfl) (fun _ _ _ h => h) (Or.inl ⟨by kernel_rfl, ?_⟩) (by assumption) ?_; rotate_left; (focus (intro w _; go_simp; (try with_reducible rfl); done)); (try simp only [Act.put, List.getElem_toArray, List.getElem_cons_succ, List.getElem_cons_zero, List.setIfInBounds_toArray, List.set_cons_zero, List.set_cons_succ])
      refine takeF (i := 12) (v := ?_) rfl (by kernel_rfl) (fun _ _ _ h => h) (Or.inl ⟨by kernel_rfl, ?_⟩) (by assumption) ?_; rotate_left; (focus (intro w _; go_simp; (try with_reducible rfl); done)); (try simp only [Act.put, List.getElem_toArray, List.getElem_cons_succ, List.getElem_cons_zero, List.setIfInBounds_toArray, List.set_cons_zero, List.set_cons_succ])
      refine takeF (i := 13) (v := ?_) rfl (by kernel_rfl) (fun _ _ _ h => h) (Or.inl ⟨by kernel_rfl, ?_⟩) (by assumption) ?_; rotate_left; (focus (intro w _; go_simp; (try with_reducible rfl); done)); (try simp only [Act.put, List.getElem_toArray, List.getElem_cons_succ, List.getElem_cons_zero, List.setIfInBounds_toArray, List.set_cons_zero, List.set_cons_succ])
      clear hHeld0
      refine readyS (rs := [14]) (by kernel_rfl) (by simp) ?_
      refine ReadyS.consP rfl (by kernel_rfl) (fun K hK => ?_) ReadyS.nil
      (try simp only [List.getElem_toArray, List.getElem_cons_succ, List.getElem_cons_zero])
      go_simp
      refine hK.out _ (W3.setCell ⟨r, k * 4 + 1, none⟩ (.int .u32 (x : Nat))) ?_
      clear hK K
      have d2 : (W3.setCell ⟨r, k * 4 + 1, none⟩ (.int .u32 (x : Nat))).cell? ⟨r, k * 4 + 2, none⟩ = some (.int .u32 (x0.y : Nat)) := by rw [World.cell?_setCell_other _ _ _ _ (fun e => by injection e with _ e2 _; omega)]; exact c2
      have dz : ∀ j, (W3.setCell ⟨r, k * 4 + 1, none⟩ (.int .u32 (x : Nat))).frozen? ⟨r, j, none⟩ = false := fun j => by simp [fz]
      generalize W3.setCell ⟨r, k * 4 + 1, none⟩ (.int .u32 (x : Nat)) = W4 at *
      clear c0 c1 c2 c3 fz
      refine takeP (i := 15) (v := ?_) rfl (by kernel_rfl) (fun _ _ _ h => h) (Or.inl ⟨by kernel_rfl, ?_⟩) ?_; rotate_left; (focus (intro w _; go_simp; (try with_reducible rfl); done)); (try simp only [Act.put, List.getElem_toArray, List.getElem_cons_succ, List.getElem_cons_zero, List.setIfInBounds_toArray, List.set_cons_zero, List.set_cons_succ])
      refine takeP (i := 16) (v := ?_) rfl (by kernel_rfl) (fun _ _ _ h => h) (Or.inl ⟨by kernel_rfl, ?_⟩) ?_; rotate_left; (focus (intro w _; go_simp; (try with_reducible rfl); done)); (try simp only [Act.put, List.getElem_toArray, List.getElem_cons_succ, List.getElem_cons_zero, List.setIfInBounds_toArray, List.set_cons_zero, List.set_cons_succ])
      refine readyS (rs := [17]) (by kernel_rfl) (by simp) ?_
      refine ReadyS.consP rfl (by kernel_rfl) (fun K hK => ?_) ReadyS.nil
      (try simp only [List.getElem_toArray, List.getElem_cons_succ, List.getElem_cons_zero])
      go_simp
      refine hK.out _ (W4.setCell ⟨r, k * 4 + 2, none⟩ (.int .u32 (y : Nat))) ?_
      clear hK K d2 dz
      generalize W4.setCell ⟨r, k * 4 + 2, none⟩ (.int .u32 (y : Nat)) = W5 at *
      refine doneS (by kernel_rfl) ?_ _
      go_wp2
      go_ret
      exact ⟨rfl, HNew.out, HFr.out⟩
end Go.Proofs.Ytdomngpkahgoiaa.Md
