/- The walks over croftlaw37.digits and number. -/
import Derived.Test.YtjhhknkhgilecaaN1
import Derived.Deep.RegionHeld3
namespace Go.Proofs.Ytjhhknkhgilecaa.Ou
open Go.RowKit Lt
set_option linter.unusedVariables false
set_option linter.unusedSimpArgs false
theorem brd_c (w : World) (K : Int) (N : Nat) (hN : N < 256) (h : K = (N : Int)) : BRd (w.alloc (.cells #[.int .u8 K] 5)) (.slice (some ⟨w.heap.size, 0, none⟩) 1 1) [UInt8.ofNat N] :=
  ⟨_, 1, rfl, Nat.le_refl _, rd_new _ _ _ _ (by rw [h]; exact bv1 N hN), fun ad e _ => by cases e; rfl⟩
set_option maxHeartbeats 4000000 in
set_option maxRecDepth 100000 in
theorem digits_small (n : Nat) (w : World) (h : n < 10) : Calls Try.prog 58 #[.int .u64 n] w fun e w' => e = .returned (.string (bstr (dgs n))) ∧ Below w.heap.size w w' := by
  rw [dgs_small h]
  have d : decide (((n : Nat) : Int) < 10) = true := decide_eq_true (by omega)
  have hcv := conv_rd (P := Try.prog) (brd_c w (48 + (n : Int)) (48 + n) (by omega) (by omega)) 24 5 9 Try.underlying24 Try.underlying5 Try.underlying9
  obtain ⟨S, hS⟩ : ∃ s, bstr [UInt8.ofNat (48 + n)] = s := ⟨_, rfl⟩
  rw [hS] at hcv ⊢
  clear hS
  have hb := Lib.hid (below_alloc1 w (.cells #[.int .u8 (48 + (n : Int))] 5))
  go_enter Try.func58, Try.ntmps58
  go_wp2
  go_ret
  exact ⟨rfl, hb.out⟩
set_option maxHeartbeats 4000000 in
set_option maxRecDepth 100000 in
theorem digits_ok : ∀ (k n : Nat) (w : World), n < 10 ^ (k + 1) → n < 18446744073709551616 → Calls Try.prog 58 #[.int .u64 n] w fun e w' => e = .returned (.string (bstr (dgs n))) ∧ Below w.heap.size w w'
  | 0, n, w, h, _ => digits_small n w (by simpa using h)
  | k + 1, n, w, h, h64 => by
    by_cases hn : n < 10
    · exact digits_small n w hn
    have hrec := fun (W : World) => digits_ok k (n / 10) W (by rw [Nat.pow_succ] at h; omega) (by omega)
    rw [show ((n / 10 : Nat) : Int) = (n : Int) / 10 from by omega] at hrec
    have hk8 : IntKind.u8.wrap (IntKind.u64.wrap (48 + (n : Int).tmod 10)) = ((48 + n % 10 : Nat) : Int) := by
      rw [Int.tmod_eq_emod_of_nonneg (by omega), IntKind.wrap_u64, IntKind.wrap_u8]; omega
    have HK8 := Lib.hid hk8; clear hk8
    have hl1 := dgs_20 (n := n / 10) (by omega)
    rw [dgs_big hn]
    have d : decide (((n : Nat) : Int) < 10) = false := decide_eq_false (by omega)
    have hw1 : IntKind.u64.wrap ((n : Int) / 10) = (n : Int) / 10 := by rw [IntKind.wrap_u64]; omega
    obtain ⟨D, hD⟩ : ∃ l, dgs (n / 10) = l := ⟨_, rfl⟩
    rw [hD] at hl1 ⊢
    simp only [hD] at hrec
    have hz1 := bstr_size D
    have hz2 := bstr_size [UInt8.ofNat (48 + n % 10)]
    have hfin := bstr_append D [UInt8.ofNat (48 + n % 10)]
    rw [hfin]
    obtain ⟨sD, hsD⟩ : ∃ s, bstr D = s := ⟨_, rfl⟩
    obtain ⟨sC, hsC⟩ : ∃ s, bstr [UInt8.ofNat (48 + n % 10)] = s := ⟨_, rfl⟩
    rw [hsD] at hz1 ⊢
    rw [hsC] at hz2 ⊢
    rw [List.length_singleton] at hz2
    simp only [hsD] at hrec
    have z1 : ¬ 9223372036854775807 < sD.size + sC.size := by omega
    have HSC := Lib.hid hsC
    have HR := Lib.hid (And.intro hrec (And.intro hl1 h64)); clear hrec hl1 h64 h hD hsD hsC hfin hz1 hz2
    go_enter Try.func58, Try.ntmps58
    go_upto_region 3 with (fail)
    refine wp_region_held_drew (S := fun W => Below w.heap.size w W) (by kernel_rfl) (below_drew1) (fun hHeld0 => ?_)
    have Hb := Lib.hid (below_drew1 (w := w))
    generalize (World.drew w) = Wc at *
    refine wpAnyH_take (i := 0) (v := ?_) rfl (by kernel_rfl) (by kernel_rfl) (by kernel_rfl) (fun _ _ _ h => h) (Or.inl ⟨by kernel_rfl, ?_⟩) (by assumption) ?_; rotate_left; (focus (intro w hSw; (try dsimp only at hSw); go_simp; (try with_reducible rfl); done)); (try simp only [Act.put, List.getElem_toArray, List.getElem_cons_succ, List.getElem_cons_zero, List.setIfInBounds_toArray, List.set_cons_zero, List.set_cons_succ])
    refine wpAnyH_take (i := 1) (v := ?_) rfl (by kernel_rfl) (by kernel_rfl) (by kernel_rfl) (fun _ _ _ h => h) (Or.inl ⟨by kernel_rfl, ?_⟩) (by assumption) ?_; rotate_left; (focus (intro w hSw; (try dsimp only at hSw); go_simp; (try with_reducible rfl); done)); (try simp only [Act.put, List.getElem_toArray, List.getElem_cons_succ, List.getElem_cons_zero, List.setIfInBounds_toArray, List.set_cons_zero, List.set_cons_succ])
    refine wpAnyH_take (i := 3) (v := ?_) rfl (by kernel_rfl) (by kernel_rfl) (by kernel_rfl) (fun _ _ _ h => h) (Or.inl ⟨by kernel_rfl, ?_⟩) (by assumption) ?_; rotate_left; (focus (intro w hSw; (try dsimp only at hSw); go_simp; (try with_reducible rfl); done)); (try simp only [Act.put, List.getElem_toArray, List.getElem_cons_succ, List.getElem_cons_zero, List.setIfInBounds_toArray, List.set_cons_zero, List.set_cons_succ])
    refine wpAnyH_take (i := 4) (v := ?_) rfl (by kernel_rfl) (by kernel_rfl) (by kernel_rfl) (fun _ _ _ h => h) (Or.inl ⟨by kernel_rfl, ?_⟩) (by assumption) ?_; rotate_left; (focus (intro w hSw; (try dsimp only at hSw); go_simp; (try with_reducible rfl); done)); (try simp only [Act.put, List.getElem_toArray, List.getElem_cons_succ, List.getElem_cons_zero, List.setIfInBounds_toArray, List.set_cons_zero, List.set_cons_succ])
    refine wpAnyH_take (i := 5) (v := ?_) rfl (by kernel_rfl) (by kernel_rfl) (by kernel_rfl) (fun _ _ _ h => h) (Or.inl ⟨by kernel_rfl, ?_⟩) (by assumption) ?_; rotate_left; (focus (intro w hSw; (try dsimp only at hSw); go_simp; (try with_reducible rfl); done)); (try simp only [Act.put, List.getElem_toArray, List.getElem_cons_succ, List.getElem_cons_zero, List.setIfInBounds_toArray, List.set_cons_zero, List.set_cons_succ])
    refine wpAnyH_take (i := 6) (v := ?_) rfl (by kernel_rfl) (by kernel_rfl) (by kernel_rfl) (fun _ _ _ h => h) (Or.inl ⟨by kernel_rfl, ?_⟩) (by assumption) ?_; rotate_left; (focus (intro w hSw; (try dsimp only at hSw); go_simp; (try with_reducible rfl); done)); (try simp only [Act.put, List.getElem_toArray, List.getElem_cons_succ, List.getElem_cons_zero, List.setIfInBounds_toArray, List.set_cons_zero, List.set_cons_succ])
    refine wpAnyH_ready (rs := [2, 7]) (by kernel_rfl) (by simp) ?_
    refine AllReadyH.cons rfl (fun K hK => ?_) (AllReadyH.cons rfl (fun K hK => ?_) AllReadyH.nil)
    · go_simp
      (with_reducible refine (HR.out.1 _).mono ?_); rintro e Wd ⟨rfl, hb⟩
      have Hb' := Lib.hid (below_up Hb.out hb)
      clear hb
      refine hK.out _ _ (Hb'.out) (fun hHeld => ?_)
      clear hK K hHeld0
      have hHeld0 := hHeld; clear hHeld
      clear Hb
      have Hb := Hb'; clear Hb'
      obtain ⟨Wc, rfl⟩ : ∃ W, W = Wd := ⟨_, rfl⟩
      (try simp only [Act.put, List.getElem_toArray, List.getElem_cons_succ, List.getElem_cons_zero, List.setIfInBounds_toArray, List.set_cons_zero, List.set_cons_succ])
      refine wpAnyH_ready (rs := [7]) (by kernel_rfl) (by simp) ?_
      refine AllReadyH.cons rfl (fun K hK => ?_) AllReadyH.nil
      go_simp
      have Hq' := Lib.hid (brd_c Wc _ (48 + n % 10) (by omega) HK8.out)
      have Hb' := Lib.hid (below_alloc Hb.out (.cells #[.int .u8 (IntKind.u8.wrap (IntKind.u64.wrap (48 + (n : Int).tmod 10)))] 5))
      refine hK.out _ _ (Hb'.out) (fun hHeld => ?_)
      clear hK K hHeld0
      have hHeld0 := hHeld; clear hHeld
      clear Hb
      have Hq := Hq'; have Hb := Hb'; clear Hq' Hb'
      generalize (World.alloc Wc _) = Wd at *
      obtain ⟨Wc, rfl⟩ : ∃ W, W = Wd := ⟨_, rfl⟩
      (try simp only [Act.put, List.getElem_toArray, List.getElem_cons_succ, List.getElem_cons_zero, List.setIfInBounds_toArray, List.set_cons_zero, List.set_cons_succ])
      refine wpAnyH_ready (rs := [8]) (by kernel_rfl) (by simp) ?_
      refine AllReadyH.cons rfl (fun K hK => ?_) AllReadyH.nil
      have hcv := conv_rd (P := Try.prog) Hq.out 24 5 9 Try.underlying24 Try.underlying5 Try.underlying9
      rw [HSC.out] at hcv
      go_simp
      clear hcv
      have Hb' := Hb
      refine hK.out _ _ (Hb'.out) (fun hHeld => ?_)
      clear hK K hHeld0
      have hHeld0 := hHeld; clear hHeld
      clear Hq Hb
      have Hb := Hb'; clear Hb'
      (try simp only [Act.put, List.getElem_toArray, List.getElem_cons_succ, List.getElem_cons_zero, List.setIfInBounds_toArray, List.set_cons_zero, List.set_cons_succ])
      refine wpAnyH_take (i := 9) (v := ?_) rfl (by kernel_rfl) (by kernel_rfl) (by kernel_rfl) (fun _ _ _ h => h) (Or.inl ⟨by kernel_rfl, ?_⟩) (by assumption) ?_; rotate_left; (focus (intro w hSw; (try dsimp only at hSw); go_simp; (try with_reducible rfl); done)); (try simp only [Act.put, List.getElem_toArray, List.getElem_cons_succ, List.getElem_cons_zero, List.setIfInBounds_toArray, List.set_cons_zero, List.set_cons_succ])
      refine wpAnyH_take (i := 10) (v := ?_) rfl (by kernel_rfl) (by kernel_rfl) (by kernel_rfl) (fun _ _ _ h => h) (Or.inl ⟨by kernel_rfl, ?_⟩) (by assumption) ?_; rotate_left; (focus (intro w hSw; (try dsimp only at hSw); go_simp; (try with_reducible rfl); done)); (try simp only [Act.put, List.getElem_toArray, List.getElem_cons_succ, List.getElem_cons_zero, List.setIfInBounds_toArray, List.set_cons_zero, List.set_cons_succ])
      refine wpAnyH_done (by kernel_rfl) ?_ _
      go_wp2
      go_ret
      exact ⟨rfl, Hb.out⟩
    · go_simp
      have Hq' := Lib.hid (brd_c Wc _ (48 + n % 10) (by omega) HK8.out)
      have Hb' := Lib.hid (below_alloc Hb.out (.cells #[.int .u8 (IntKind.u8.wrap (IntKind.u64.wrap (48 + (n : Int).tmod 10)))] 5))
      refine hK.out _ _ (Hb'.out) (fun hHeld => ?_)
      clear hK K hHeld0
      have hHeld0 := hHeld; clear hHeld
      clear Hb
      have Hq := Hq'; have Hb := Hb'; clear Hq' Hb'
      generalize (World.alloc Wc _) = Wd at *
      obtain ⟨Wc, rfl⟩ : ∃ W, W = Wd := ⟨_, rfl⟩
      (try simp only [Act.put, List.getElem_toArray, List.getElem_cons_succ, List.getElem_cons_zero, List.setIfInBounds_toArray, List.set_cons_zero, List.set_cons_succ])
      refine wpAnyH_ready (rs := [2, 8]) (by kernel_rfl) (by simp) ?_
      refine AllReadyH.cons rfl (fun K hK => ?_) (AllReadyH.cons rfl (fun K hK => ?_) AllReadyH.nil)
      · go_simp
        (with_reducible refine (HR.out.1 _).mono ?_); rintro e Wd ⟨rfl, hb⟩
        have Hb' := Lib.hid (below_up Hb.out hb)
        have Hq' := Lib.hid (Hq.out.below hb)
        clear hb
        refine hK.out _ _ (Hb'.out) (fun hHeld => ?_)
        clear hK K hHeld0
        have hHeld0 := hHeld; clear hHeld
        clear Hb Hq
        have Hb := Hb'; clear Hb'
        have Hq := Hq'; clear Hq'
        obtain ⟨Wc, rfl⟩ : ∃ W, W = Wd := ⟨_, rfl⟩
        (try simp only [Act.put, List.getElem_toArray, List.getElem_cons_succ, List.getElem_cons_zero, List.setIfInBounds_toArray, List.set_cons_zero, List.set_cons_succ])
        refine wpAnyH_ready (rs := [8]) (by kernel_rfl) (by simp) ?_
        refine AllReadyH.cons rfl (fun K hK => ?_) AllReadyH.nil
        have hcv := conv_rd (P := Try.prog) Hq.out 24 5 9 Try.underlying24 Try.underlying5 Try.underlying9
        rw [HSC.out] at hcv
        go_simp
        clear hcv
        have Hb' := Hb
        refine hK.out _ _ (Hb'.out) (fun hHeld => ?_)
        clear hK K hHeld0
        have hHeld0 := hHeld; clear hHeld
        clear Hq Hb
        have Hb := Hb'; clear Hb'
        (try simp only [Act.put, List.getElem_toArray, List.getElem_cons_succ, List.getElem_cons_zero, List.setIfInBounds_toArray, List.set_cons_zero, List.set_cons_succ])
        refine wpAnyH_take (i := 9) (v := ?_) rfl (by kernel_rfl) (by kernel_rfl) (by kernel_rfl) (fun _ _ _ h => h) (Or.inl ⟨by kernel_rfl, ?_⟩) (by assumption) ?_; rotate_left; (focus (intro w hSw; (try dsimp only at hSw); go_simp; (try with_reducible rfl); done)); (try simp only [Act.put, List.getElem_toArray, List.getElem_cons_succ, List.getElem_cons_zero, List.setIfInBounds_toArray, List.set_cons_zero, List.set_cons_succ])
        refine wpAnyH_take (i := 10) (v := ?_) rfl (by kernel_rfl) (by kernel_rfl) (by kernel_rfl) (fun _ _ _ h => h) (Or.inl ⟨by kernel_rfl, ?_⟩) (by assumption) ?_; rotate_left; (focus (intro w hSw; (try dsimp only at hSw); go_simp; (try with_reducible rfl); done)); (try simp only [Act.put, List.getElem_toArray, List.getElem_cons_succ, List.getElem_cons_zero, List.setIfInBounds_toArray, List.set_cons_zero, List.set_cons_succ])
        refine wpAnyH_done (by kernel_rfl) ?_ _
        go_wp2
        go_ret
        exact ⟨rfl, Hb.out⟩
      · have hcv := conv_rd (P := Try.prog) Hq.out 24 5 9 Try.underlying24 Try.underlying5 Try.underlying9
        rw [HSC.out] at hcv
        go_simp
        clear hcv
        have Hb' := Hb
        refine hK.out _ _ (Hb'.out) (fun hHeld => ?_)
        clear hK K hHeld0
        have hHeld0 := hHeld; clear hHeld
        clear Hq Hb
        have Hb := Hb'; clear Hb'
        (try simp only [Act.put, List.getElem_toArray, List.getElem_cons_succ, List.getElem_cons_zero, List.setIfInBounds_toArray, List.set_cons_zero, List.set_cons_succ])
        refine wpAnyH_ready (rs := [2]) (by kernel_rfl) (by simp) ?_
        refine AllReadyH.cons rfl (fun K hK => ?_) AllReadyH.nil
        go_simp
        (with_reducible refine (HR.out.1 _).mono ?_); rintro e Wd ⟨rfl, hb⟩
        have Hb' := Lib.hid (below_up Hb.out hb)
        clear hb
        refine hK.out _ _ (Hb'.out) (fun hHeld => ?_)
        clear hK K hHeld0
        have hHeld0 := hHeld; clear hHeld
        clear Hb
        have Hb := Hb'; clear Hb'
        obtain ⟨Wc, rfl⟩ : ∃ W, W = Wd := ⟨_, rfl⟩
        (try simp only [Act.put, List.getElem_toArray, List.getElem_cons_succ, List.getElem_cons_zero, List.setIfInBounds_toArray, List.set_cons_zero, List.set_cons_succ])
        refine wpAnyH_take (i := 9) (v := ?_) rfl (by kernel_rfl) (by kernel_rfl) (by kernel_rfl) (fun _ _ _ h => h) (Or.inl ⟨by kernel_rfl, ?_⟩) (by assumption) ?_; rotate_left; (focus (intro w hSw; (try dsimp only at hSw); go_simp; (try with_reducible rfl); done)); (try simp only [Act.put, List.getElem_toArray, List.getElem_cons_succ, List.getElem_cons_zero, List.setIfInBounds_toArray, List.set_cons_zero, List.set_cons_succ])
        refine wpAnyH_take (i := 10) (v := ?_) rfl (by kernel_rfl) (by kernel_rfl) (by kernel_rfl) (fun _ _ _ h => h) (Or.inl ⟨by kernel_rfl, ?_⟩) (by assumption) ?_; rotate_left; (focus (intro w hSw; (try dsimp only at hSw); go_simp; (try with_reducible rfl); done)); (try simp only [Act.put, List.getElem_toArray, List.getElem_cons_succ, List.getElem_cons_zero, List.setIfInBounds_toArray, List.set_cons_zero, List.set_cons_succ])
        refine wpAnyH_done (by kernel_rfl) ?_ _
        go_wp2
        go_ret
        exact ⟨rfl, Hb.out⟩
end Go.Proofs.Ytjhhknkhgilecaa.Ou
