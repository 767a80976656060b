/- The walks over slices.symMergeCmpFunc, slices.stableCmpFunc, slices.SortStableFunc. -/
import Derived.Test.YtdomngpkahgoiaaCs8
namespace Go.Proofs.Ytdomngpkahgoiaa.StC
open Go.RowKit Rg Ti St
set_option linter.unusedVariables false
set_option linter.unusedSimpArgs false
theorem sym_ok {base g N cap : Nat} (hN : N ≤ 4398046511104) {F : Nat} {caps : Array Value} {CP : World → Prop} {OK : CeS → Prop} {cm : CeS → CeS → Int} (hC : CmpOk F caps CP OK cm) (hw : SWO (ltc cm)) (hK : Kept CP g) (hRun : RunsF F) :
    ∀ (k : Nat) (W : World), CP W → ∀ (f : Row (CeS × Nat)), RowF W base g N cap f → (∀ i, i < N → OK (f i).1) → ∀ a m b : Nat, b - a ≤ k → a < m → m < b → b ≤ N → Sorted (ltc cm) f a m → Sorted (ltc cm) f m b → TagLt f a m b →
      Calls Try.prog 87 #[.slice (some ⟨g, 0, none⟩) N cap, .int .i64 a, .int .i64 m, .int .i64 b, .func (.func F) #[] caps] W fun e w' => e = .returned (.tuple #[]) ∧ ∃ f', RowF w' base g N cap f' ∧ Sorted (ltc cm) f' a b ∧ Mix f f' a b ∧ Fr (fun k => k = g) W w'
  | 0, W, hcp, f, h, hOK, a, m, b, hk, ha, hm, hb, s1, s2, ht => by omega
  | k + 1, W, hcp, f, h, hOK, a, m, b, hk, ha, hm, hb, s1, s2, ht => by
    rcases Nat.lt_or_ge (a + 1) m with h1 | h1
    · rcases Nat.lt_or_ge (m + 1) b with h2 | h2
      · exact sym3_ok hN hC hw hK hRun W hcp f h hOK a m b ha hm hb h1 h2 s1 s2 ht (fun W' hcp' f' hf' ho' a' m' b' h3 h4 h5 h6 t1 t2 tt => sym_ok hN hC hw hK hRun k W' hcp' f' hf' ho' a' m' b' (by omega) h4 h5 h6 t1 t2 tt)
      · exact sym2_ok hN hC hw hK hRun W hcp f h hOK a m b ha hm hb h2 h1 s1 s2 ht
    · exact sym1_ok hN hC hw hK hRun W hcp f h hOK a m b ha hm hb h1 s1 s2 ht
set_option maxHeartbeats 4000000 in
set_option maxRecDepth 100000 in
theorem stable_ok {base g N cap : Nat} (hN : N ≤ 4398046511104) {F : Nat} {caps : Array Value} {CP : World → Prop} {OK : CeS → Prop} {cm : CeS → CeS → Int} (hC : CmpOk F caps CP OK cm) (hw : SWO (ltc cm)) (hK : Kept CP g) (hRun : RunsF F)
    (W : World) (hcp : CP W) (f : Row (CeS × Nat)) (h : RowF W base g N cap f) (hOK : ∀ i, i < N → OK (f i).1) (htag : ∀ i, i < N → (f i).2 = i) :
    Calls Try.prog 75 #[.slice (some ⟨g, 0, none⟩) N cap, .int .i64 N, .func (.func F) #[] caps] W fun e w' => e = .returned (.tuple #[]) ∧ ∃ f', RowF w' base g N cap f' ∧ Sorted (ltc cm) f' 0 N ∧ Mix f f' 0 N ∧ Fr (fun k => k = g) W w' := by
  have HH := Lib.hid h
  have HTg := Lib.hid htag
  have HIns := fun W hcp f h ho a b ha hb ht => insertion_ok (base := base) (cap := cap) hN hC hw hK hRun W hcp f h ho a b ha hb ht
  have HSym := fun W hcp f h ho a m b ha hm hb s1 s2 ht => sym_ok (base := base) (cap := cap) hN hC hw hK hRun (b - a) W hcp f h ho a m b (Nat.le_refl _) ha hm hb s1 s2 ht
  have HKp := Lib.hid hK
  have HCP := Lib.hid hcp
  have HOK := Lib.hid hOK
  clear h hOK htag hC hK hw hcp hRun
  replace HIns := Lib.hid HIns
  replace HSym := Lib.hid HSym
  go_enter Try.func75, Try.ntmps75
  go_wp2_with fail
  go_loopw [7, 8] (fun va vb W' => ∃ (q A B : Nat) (f' : Row (CeS × Nat)), va = .int .i64 A ∧ vb = .int .i64 B ∧ A = q * 20 ∧ A + 20 ≤ B ∧ B ≤ A + 20 ∧ A ≤ N ∧ RowF W' base g N cap f' ∧ SB (ltc cm) f' 20 0 A ∧ TagIn f' 20 0 N ∧ (∀ i, A ≤ i → i < N → (f' i).2 = i) ∧ Mix f f' 0 N ∧ Fr (fun k => k = g) W W') (fun va _ _ => N - (intOf va).toNat)
  case atStart => exact ⟨0, 0, 20, f, rfl, rfl, rfl, by omega, by omega, Nat.zero_le _, HH.out, fun i j h1 h2 h3 => by omega, fun i h1 h2 => by rw [HTg.out i h2], fun i h1 h2 => HTg.out i h2, Mix.refl _ _ _, Fr.refl _ _⟩
  case round =>
  obtain ⟨q, A, B, f', rfl, rfl, hA, hB1, hB2, hAN, hR, hS, hT, hT2, hM, hF⟩ := hrel
  have HR := Lib.hid hR
  have HF := Lib.hid hF
  have HQ := Lib.hid (And.intro hS (And.intro hT (And.intro hT2 hM)))
  have HA := Lib.hid hA
  have HP := Lib.hid (HKp.out _ _ HCP.out hF)
  clear hR hS hT hT2 hM hF hA
  obtain ⟨B3, hB3⟩ : ∃ x, B + 20 = x := ⟨_, rfl⟩
  have kb : IntKind.i64.wrap ((B : Int) + 20) = (B3 : Int) := by rw [IntWalk.i64_in _ (by omega)]; omega
  have kb2 : (B : Int) + 20 = (B3 : Int) := by omega
  have hB31 : B + 20 ≤ B3 := by omega
  have hB32 : B3 ≤ B + 20 := by omega
  clear hB3
  by_cases hlt : B ≤ N
  · have d : decide (B ≤ N) = true := decide_eq_true hlt
    have di : decide ((B : Int) ≤ N) = true := decide_eq_true (by omega)
    have HI := Lib.hid (HIns.out wr HP.out f' HR.out (mix_ok HQ.out.2.2.2 (Nat.le_refl _) HOK.out) A B (by omega) hlt (fun i j h1 h2 h3 => by
      rw [HQ.out.2.2.1 i h1 (by omega), HQ.out.2.2.1 j (by omega) (by omega)]; exact h2))
    go_wp2_with fail
    (with_reducible refine HI.out.mono ?_); rintro e w2 ⟨rfl, f2, hR2, hS2, hM2, hF2⟩
    have HR2 := Lib.hid hR2
    have HF2 := Lib.hid (HF.out.trans hF2 (fun _ _ h => h))
    have HQ2 : Hid (SB (ltc cm) f2 20 0 B ∧ TagIn f2 20 0 N ∧ (∀ i, B ≤ i → i < N → (f2 i).2 = i) ∧ Mix f f2 0 N) := Lib.hid ⟨HQ.out.1.mix (by decide) hM2 HA.out hS2, HQ.out.2.1.mix (by decide) hM2 HA.out (by omega) hlt (Nat.zero_le _), fun i h1 h2 => by rw [hM2.out i (by omega)]; exact HQ.out.2.2.1 i (by omega) h2, HQ.out.2.2.2.trans (hM2.wide (Nat.zero_le _) (by omega) hlt)⟩
    clear hR2 hS2 hM2 hF2 HI
    go_wp2
    exact ⟨⟨q + 1, B, B3, f2, rfl, rfl, by have := HA.out; omega, hB31, hB32, hlt, HR2.out, HQ2.out.1, HQ2.out.2.1, HQ2.out.2.2.1, HQ2.out.2.2.2, HF2.out⟩, by simp [intOf]; omega⟩
  · have d : decide (B ≤ N) = false := decide_eq_false hlt
    have di : decide ((B : Int) ≤ N) = false := decide_eq_false (by omega)
    have HI := Lib.hid (HIns.out wr HP.out f' HR.out (mix_ok HQ.out.2.2.2 (Nat.le_refl _) HOK.out) A N hAN (Nat.le_refl _) (fun i j h1 h2 h3 => by
      rw [HQ.out.2.2.1 i h1 (by omega), HQ.out.2.2.1 j (by omega) (by omega)]; exact h2))
    go_wp2_with fail
    (with_reducible refine HI.out.mono ?_); rintro e w2 ⟨rfl, f2, hR2, hS2, hM2, hF2⟩
    have HR2 := Lib.hid hR2
    have HF2 := Lib.hid (HF.out.trans hF2 (fun _ _ h => h))
    have HQ2 : Hid (SB (ltc cm) f2 20 0 N ∧ TagIn f2 20 0 N ∧ Mix f f2 0 N) := Lib.hid ⟨HQ.out.1.mix (by decide) hM2 HA.out hS2, HQ.out.2.1.mix (by decide) hM2 HA.out (by omega) (Nat.le_refl _) (Nat.zero_le _), HQ.out.2.2.2.trans (hM2.wide (Nat.zero_le _) hAN (Nat.le_refl _))⟩
    clear hR2 hS2 hM2 hF2 HI
    go_wp2_with fail
    go_loopw [6] (fun vs W' => ∃ (bs : Nat) (f' : Row (CeS × Nat)), vs = .int .i64 bs ∧ 1 ≤ bs ∧ bs ≤ 2 * N + 20 ∧ RowF W' base g N cap f' ∧ SB (ltc cm) f' bs 0 N ∧ TagIn f' bs 0 N ∧ Mix f f' 0 N ∧ Fr (fun k => k = g) W W') (fun vs _ => N - (intOf vs).toNat)
    case atStart => exact ⟨20, f2, rfl, by decide, by omega, HR2.out, HQ2.out.1, HQ2.out.2.1, HQ2.out.2.2, HF2.out⟩
    case round =>
    obtain ⟨bs, f3, rfl, hbs1, hbs2, hR, hS, hT, hM, hF⟩ := hrel
    have HR3 := Lib.hid hR
    have HF3 := Lib.hid hF
    have HQ3 := Lib.hid (And.intro hS (And.intro hT hM))
    clear hR hS hT hM hF HR HF HQ HA HP HR2 HF2 HQ2 d di kb kb2
    by_cases hlt3 : bs < N
    · have d : decide (bs < N) = true := decide_eq_true hlt3
      have di : decide ((bs : Int) < N) = true := decide_eq_true (by omega)
      have k2 : IntKind.i64.wrap (2 * (bs : Int)) = ((2 * bs : Nat) : Int) := by rw [IntWalk.i64_in _ (by omega)]; omega
      have k2' : 2 * (bs : Int) = ((2 * bs : Nat) : Int) := by omega
      have k3 : IntKind.i64.wrap ((bs : Int) * 2) = ((2 * bs : Nat) : Int) := by rw [IntWalk.i64_in _ (by omega)]; omega
      have k3' : (bs : Int) * 2 = ((2 * bs : Nat) : Int) := by omega
      obtain ⟨D, hD⟩ : ∃ x, 2 * bs = x := ⟨_, rfl⟩
      rw [hD] at k2 k2' k3 k3'
      have hD1 : 2 * bs ≤ D := by omega
      have hD2 : D ≤ 2 * bs := by omega
      have HD := Lib.hid hD
      clear hD
      go_wp2_with fail
      go_loopw [7, 8] (fun va vb W' => ∃ (q A B : Nat) (f' : Row (CeS × Nat)), va = .int .i64 A ∧ vb = .int .i64 B ∧ A = q * D ∧ A + D ≤ B ∧ B ≤ A + D ∧ A ≤ N ∧ RowF W' base g N cap f' ∧ SB (ltc cm) f' D 0 A ∧ SB (ltc cm) f' bs A N ∧ TagIn f' bs A N ∧ TagIn f' D 0 N ∧ Mix f f' 0 N ∧ Fr (fun k => k = g) W W') (fun va _ _ => N - (intOf va).toNat)
      case atStart => exact ⟨0, 0, D, f3, rfl, rfl, by omega, by omega, by omega, Nat.zero_le _, HR3.out, fun i j h1 h2 h3 => by omega, HQ3.out.1, HQ3.out.2.1, by rw [← HD.out]; exact HQ3.out.2.1.dbl, HQ3.out.2.2, HF3.out⟩
      case round =>
      obtain ⟨q2, A2, B2, f4, rfl, rfl, hA, hB1, hB2, hAN2, hR, hS, hS', hT, hT', hM, hF⟩ := hrel
      have HR4 := Lib.hid hR
      have HF4 := Lib.hid hF
      have HA4 : Hid (A2 = q2 * (2 * bs)) := Lib.hid (by rw [hA, HD.out])
      have HQ4 : Hid (SB (ltc cm) f4 (2 * bs) 0 A2 ∧ SB (ltc cm) f4 bs A2 N ∧ TagIn f4 bs A2 N ∧ TagIn f4 (2 * bs) 0 N ∧ Mix f f4 0 N) := Lib.hid (by rw [HD.out]; exact ⟨hS, hS', hT, hT', hM⟩)
      have HP4 := Lib.hid (HKp.out _ _ HCP.out hF)
      clear hR hS hS' hT hT' hM hF hA
      have km : IntKind.i64.wrap ((A2 : Int) + bs) = ((A2 + bs : Nat) : Int) := by rw [IntWalk.i64_in _ (by omega)]; omega
      obtain ⟨M, hM⟩ : ∃ x, A2 + bs = x := ⟨_, rfl⟩
      have km2 : (A2 : Int) + bs = (M : Int) := by omega
      rw [hM] at km
      have HM := Lib.hid hM
      have hM1 : A2 + bs ≤ M := by omega
      have hM2 : M ≤ A2 + bs := by omega
      clear hM
      by_cases hlt4 : B2 ≤ N
      · have d4 : decide (B2 ≤ N) = true := decide_eq_true hlt4
        have d4i : decide ((B2 : Int) ≤ N) = true := decide_eq_true (by omega)
        obtain ⟨E2, hE2⟩ : ∃ x, B2 + D = x := ⟨_, rfl⟩
        have kd : IntKind.i64.wrap ((B2 : Int) + D) = (E2 : Int) := by rw [IntWalk.i64_in _ (by omega)]; omega
        have kd2 : (B2 : Int) + D = (E2 : Int) := by omega
        have hE21 : B2 + D ≤ E2 := by omega
        have hE22 : E2 ≤ B2 + D := by omega
        clear hE2
        have hpre := merge_pre (b := B2) (by omega) HA4.out HQ4.out.2.1 HQ4.out.2.2.1 (by omega) (by omega) hlt4
        rw [HM.out] at hpre
        have HI := Lib.hid (HSym.out wr HP4.out f4 HR4.out (mix_ok HQ4.out.2.2.2.2 (Nat.le_refl _) HOK.out) A2 M B2 (by omega) (by omega) hlt4 hpre.1 hpre.2.1 hpre.2.2)
        clear hpre
        go_wp2_with fail
        (with_reducible refine HI.out.mono ?_); rintro e w5 ⟨rfl, f5, hR2, hS2, hM2', hF2⟩
        have HR5 := Lib.hid hR2
        have HF5 := Lib.hid (HF4.out.trans hF2 (fun _ _ h => h))
        have HQ5 : Hid (SB (ltc cm) f5 D 0 B2 ∧ SB (ltc cm) f5 bs B2 N ∧ TagIn f5 bs B2 N ∧ TagIn f5 D 0 N ∧ Mix f f5 0 N) := Lib.hid (by
          rw [← HD.out]
          exact ⟨HQ4.out.1.mix (by omega) hM2' HA4.out hS2, HQ4.out.2.1.far (fun k hk => hM2'.out k (by omega)) (by omega), HQ4.out.2.2.1.far (fun k hk => hM2'.out k (by omega)) (by omega), HQ4.out.2.2.2.1.mix (by omega) hM2' HA4.out (by omega) hlt4 (Nat.zero_le _), HQ4.out.2.2.2.2.trans (hM2'.wide (Nat.zero_le _) (by omega) hlt4)⟩)
        clear hR2 hS2 hM2' hF2 HI
        go_wp2
        exact ⟨⟨q2 + 1, B2, E2, f5, rfl, rfl, by have := HA4.out; have h2 := HD.out; rw [Nat.succ_mul, ← h2]; omega, hE21, hE22, hlt4, HR5.out, HQ5.out.1, HQ5.out.2.1, HQ5.out.2.2.1, HQ5.out.2.2.2.1, HQ5.out.2.2.2.2, HF5.out⟩, by simp [intOf]; omega⟩
      · have d4 : decide (B2 ≤ N) = false := decide_eq_false hlt4
        have d4i : decide ((B2 : Int) ≤ N) = false := decide_eq_false (by omega)
        by_cases hlt5 : M < N
        · have d5 : decide (M < N) = true := decide_eq_true hlt5
          have d5i : decide ((M : Int) < N) = true := decide_eq_true (by omega)
          have hpre := merge_pre (b := N) (by omega) HA4.out HQ4.out.2.1 HQ4.out.2.2.1 (by omega) (by omega) (Nat.le_refl _)
          rw [HM.out] at hpre
          have HI := Lib.hid (HSym.out wr HP4.out f4 HR4.out (mix_ok HQ4.out.2.2.2.2 (Nat.le_refl _) HOK.out) A2 M N (by omega) hlt5 (Nat.le_refl _) hpre.1 hpre.2.1 hpre.2.2)
          clear hpre
          go_wp2_with fail
          (with_reducible refine HI.out.mono ?_); rintro e w5 ⟨rfl, f5, hR2, hS2, hM2', hF2⟩
          have HR5 := Lib.hid hR2
          have HF5 := Lib.hid (HF4.out.trans hF2 (fun _ _ h => h))
          have HQ5 : Hid (SB (ltc cm) f5 D 0 N ∧ TagIn f5 D 0 N ∧ Mix f f5 0 N) := Lib.hid (by
            rw [← HD.out]
            exact ⟨HQ4.out.1.mix (by omega) hM2' HA4.out hS2, HQ4.out.2.2.2.1.mix (by omega) hM2' HA4.out (by omega) (Nat.le_refl _) (Nat.zero_le _), HQ4.out.2.2.2.2.trans (hM2'.wide (Nat.zero_le _) (by omega) (Nat.le_refl _))⟩)
          clear hR2 hS2 hM2' hF2 HI
          go_wp2
          exact ⟨⟨D, f5, rfl, by omega, by omega, HR5.out, HQ5.out.1, HQ5.out.2.1, HQ5.out.2.2, HF5.out⟩, by simp [intOf]; omega⟩
        · have d5 : decide (M < N) = false := decide_eq_false hlt5
          have d5i : decide ((M : Int) < N) = false := decide_eq_false (by omega)
          have HQ5 : Hid (SB (ltc cm) f4 D 0 N ∧ TagIn f4 D 0 N ∧ Mix f f4 0 N) := Lib.hid (by
            rw [← HD.out]
            exact ⟨last_half (by omega) HA4.out HQ4.out.1 HQ4.out.2.1 (by omega), HQ4.out.2.2.2.1, HQ4.out.2.2.2.2⟩)
          go_wp2
          exact ⟨⟨D, f4, rfl, by omega, by omega, HR4.out, HQ5.out.1, HQ5.out.2.1, HQ5.out.2.2, HF4.out⟩, by simp [intOf]; omega⟩
    · have d : decide (bs < N) = false := decide_eq_false hlt3
      have di : decide ((bs : Int) < N) = false := decide_eq_false (by omega)
      go_wp2
      go_end0
      exact ⟨rfl, f3, HR3.out, HQ3.out.1.all (by omega), HQ3.out.2.2, HF3.out⟩
/-- slices.SortStableFunc over a row of one's own. -/
theorem sort_ok {base g cap : Nat} {F : Nat} {caps : Array Value} {CP : World → Prop} {OK : CeS → Prop} {cm : CeS → CeS → Int} (hC : CmpOk F caps CP OK cm) (hw : SWO (ltc cm)) (hK : Kept CP g) (hRun : RunsF F)
    (W : World) (hcp : CP W) (L : List CeS) (hOK : ∀ x ∈ L, OK x) (hN : L.length ≤ 4398046511104) (h : W.ownsRow base 32 3 (.slice (some ⟨g, 0, none⟩) L.length cap) L.length (L.flatMap CeS.cells)) :
    Calls Try.prog 49 #[.slice (some ⟨g, 0, none⟩) L.length cap, .func (.func F) #[] caps] W fun e w' => e = .returned (.tuple #[]) ∧ w'.ownsRow base 32 3 (.slice (some ⟨g, 0, none⟩) L.length cap) L.length ((L.mergeSort (fun a b => !ltc cm b a)).flatMap CeS.cells) ∧ Fr (fun k => k = g) W w' := by
  have h0 : RowF W base g L.length cap (row0 L CeS.root) := by
    show W.ownsRow _ _ _ _ _ ((lst L.length (row0 L CeS.root)).flatMap CeS.cells)
    rw [lst_row0]; exact h
  have HSt := Lib.hid (stable_ok hN hC hw hK hRun W hcp (row0 L CeS.root) h0 (fun i hi => by
    show OK (L[i]?.getD CeS.root)
    rw [List.getElem?_eq_getElem hi]
    exact hOK _ (List.getElem_mem hi)) (fun i _ => rfl))
  have HFin : Hid (∀ f' : Row (CeS × Nat), Sorted (ltc cm) f' 0 L.length → Mix (row0 L CeS.root) f' 0 L.length → lst L.length f' = L.mergeSort (fun a b => !ltc cm b a)) := Lib.hid (fun f' h1 h2 => sorted_is hw L CeS.root h2 h1)
  clear h0 h hOK hC hw hK hRun hcp
  generalize hR : L.mergeSort (fun a b => !ltc cm b a) = R at *
  clear hR
  generalize L.length = n at *
  go_enter Try.func49, Try.ntmps49
  go_wp2_with fail
  (with_reducible refine HSt.out.mono ?_); rintro e w2 ⟨rfl, f', hR2, hS2, hM2, hF2⟩
  have HE := Lib.hid (HFin.out f' hS2 hM2)
  have HR2 := Lib.hid hR2
  have HF2 := Lib.hid hF2
  clear hR2 hS2 hM2 hF2
  go_wp2
  go_end0
  refine ⟨rfl, ?_, HF2.out⟩
  have := HR2.out
  rw [RowF, HE.out] at this
  exact this
end Go.Proofs.Ytdomngpkahgoiaa.StC
