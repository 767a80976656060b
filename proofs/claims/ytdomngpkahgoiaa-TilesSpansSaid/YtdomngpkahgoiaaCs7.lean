/- The walk over slices.symMergeCmpFunc: one on the right. -/
import Derived.Test.YtdomngpkahgoiaaCs6
namespace Go.Proofs.Ytdomngpkahgoiaa.StC
open Go.RowKit Rg Ti St
set_option linter.unusedVariables false
set_option linter.unusedSimpArgs false
set_option maxHeartbeats 4000000 in
set_option maxRecDepth 100000 in
theorem sym2_ok {base g N cap : Nat} (hN : N ≤ 4398046511104) {F : Nat} {caps : Array Value} {CP : World → Prop} {OK : CeS → Prop} {cm : CeS → CeS → Int} (hC : CmpOk F caps CP OK cm) (hw : SWO (ltc cm)) (hK : Kept CP g) (hRun : RunsF F)
    (W : World) (hcp : CP W) (f : Row (CeS × Nat)) (h : RowF W base g N cap f) (hOK : ∀ i, i < N → OK (f i).1) (a m b : Nat) (ha : a < m) (hm : m < b) (hb : b ≤ N) (h1 : b ≤ m + 1) (h2 : a + 1 < m) (hs1 : Sorted (ltc cm) f a m) (hs2 : Sorted (ltc cm) f m b) (ht : TagLt f a m b) :
    Calls Try.prog 87 #[.slice (some ⟨g, 0, none⟩) N cap, .int .i64 a, .int .i64 m, .int .i64 b, .func (.func F) #[] caps] W fun e w' => e = .returned (.tuple #[]) ∧ ∃ f', RowF w' base g N cap f' ∧ Sorted (ltc cm) f' a b ∧ Mix f f' a b ∧ Fr (fun k => k = g) W w' := by
  have HH := Lib.hid h
  have HOK := Lib.hid hOK
  have HT := Lib.hid ht
  have HS1 := Lib.hid hs1
  have HS2 := Lib.hid hs2
  have HCm := Lib.hid hC
  have HKp := Lib.hid hK
  have HSw := Lib.hid hw
  have HCP := Lib.hid hcp
  have hrun : ∀ (args : Array Value) (W : World), (callFunc F args).run Try.prog W = .ok (.enter F args) W := hRun
  clear h hOK hs1 hs2 ht hC hK hw hcp hRun

  have k0 : ((m : Int) - a == 1) = false := by rw [beq_eq_false_iff_ne]; omega
  have k1 : ((b : Int) - m == 1) = true := by rw [beq_iff_eq]; omega
  have ba : (m : Int) < N := by omega
  have ba0 : IntKind.i64.wrap (m : Int) = (m : Int) := by rw [IntWalk.i64_in _ (by omega)]
  go_enter Try.func87, Try.ntmps87
  go_wp2_with fail
  go_loopw [14, 15] (fun vi vj W' => ∃ (i j : Nat), vi = .int .i64 i ∧ vj = .int .i64 j ∧ a ≤ i ∧ i ≤ j ∧ j ≤ m ∧ (a < i → ltc cm (f m).1 (f (i - 1)).1 = false) ∧ (j < m → ltc cm (f m).1 (f j).1 = true) ∧ Below W.heap.size W W') (fun vi vj _ => (intOf vj).toNat - (intOf vi).toNat)
  case atStart => exact ⟨a, m, rfl, rfl, by omega, by omega, by omega, fun h => by omega, fun h => by omega, Below.refl _ _⟩
  case round =>
  obtain ⟨i, j, rfl, rfl, hi1, hij, hj1, hl, hr, hB⟩ := hrel
  have HB := Lib.hid hB
  have HL := Lib.hid hl
  have HRr := Lib.hid hr
  clear hB hl hr
  by_cases hlt : i < j
  · have d : decide (i < j) = true := decide_eq_true hlt
    have di : decide ((i : Int) < j) = true := decide_eq_true (by omega)
    obtain ⟨H, hh⟩ : ∃ h, (i + j) / 2 = h := ⟨_, rfl⟩
    have hh1 : i ≤ H := by omega
    have hh2 : H < j := by omega
    have kh : ((i : Int) + j) / 2 = (H : Int) := by omega
    have bH : (H : Int) < N := by omega
    have bH0 : IntKind.i64.wrap (H : Int) = (H : Int) := by rw [IntWalk.i64_in _ (by omega)]
    have kh1 : IntKind.i64.wrap ((H : Int) + 1) = ((H + 1 : Nat) : Int) := by rw [IntWalk.i64_in _ (by omega)]; omega
    clear hh
    obtain ⟨c, hc⟩ : ∃ c, ltc cm (f m).1 (f H).1 = c := ⟨_, rfl⟩
    have HC := Lib.hid hc
    go_upto_region 17 with (fail)
    have hd := below_drew1 (w := wr)
    have hbd := below_up HB.out hd
    have HR1 := Lib.hid (own_below HH.out hbd)
    have HP1 := Lib.hid (HKp.out _ _ HCP.out (Fr.of_below hbd))
    have HD1 := Lib.hid hbd
    obtain ⟨fa, _⟩ := row_at HR1.out (k := m) (by omega)
    obtain ⟨fb, _⟩ := row_at HR1.out (k := H) (by omega)
    have HOx := Lib.hid (HOK.out m (by omega))
    have HOy := Lib.hid (HOK.out H (by omega))
    generalize (f m).1 = x at fa hc HOx
    generalize (f H).1 = y at fb hc HOy
    have hcc : decide (cm x y < 0) = c := hc
    have HCC := Lib.hid hcc
    clear hd hbd hc hcc
    refine beginS (S := fun W => At4 W g m x ∧ At4 W g H y) [9] (by kernel_rfl) ⟨fa, fb⟩ (fun hHeld0 => ?_)
    generalize (World.drew wr) = W0 at *
    clear fa fb
    refine takeF (i := 0) (v := ?_) rfl (by kernel_rfl) (fun _ _ _ h => h) (Or.inl ⟨by kernel_rfl, ?_⟩) (by assumption) ?_; rotate_left; (focus (intro w _; go_simp; (try with_reducible rfl); done)); (try simp only [Act.put, List.getElem_toArray, List.getElem_cons_succ, List.getElem_cons_zero, List.setIfInBounds_toArray, List.set_cons_zero, List.set_cons_succ])
    refine takeF (i := 1) (v := ?_) rfl (by kernel_rfl) (fun _ _ _ h => h) (Or.inl ⟨by kernel_rfl, ?_⟩) (by assumption) ?_; rotate_left; (focus (intro w _; go_simp; (try with_reducible rfl); done)); (try simp only [Act.put, List.getElem_toArray, List.getElem_cons_succ, List.getElem_cons_zero, List.setIfInBounds_toArray, List.set_cons_zero, List.set_cons_succ])
    refine takeF (i := 2) (v := ?_) rfl (by kernel_rfl) (fun _ _ _ h => h) (Or.inl ⟨by kernel_rfl, ?_⟩) (by assumption) ?_; rotate_left; (focus (intro w _; go_simp; (try with_reducible rfl); done)); (try simp only [Act.put, List.getElem_toArray, List.getElem_cons_succ, List.getElem_cons_zero, List.setIfInBounds_toArray, List.set_cons_zero, List.set_cons_succ])
    refine takeF (i := 3) (v := ?_) rfl (by kernel_rfl) (fun _ _ _ h => h) (Or.inl ⟨by kernel_rfl, ?_⟩) (by assumption) ?_; rotate_left; (focus (intro w _; go_simp; (try with_reducible rfl); done)); (try simp only [Act.put, List.getElem_toArray, List.getElem_cons_succ, List.getElem_cons_zero, List.setIfInBounds_toArray, List.set_cons_zero, List.set_cons_succ])
    refine takeH (i := 4) (v := ?_) rfl (by kernel_rfl) (fun _ _ _ h => h) (Or.inl ⟨by kernel_rfl, ?_⟩) (by assumption) ?_; rotate_left; (focus (intro w hSw; (try dsimp only at hSw); go_simp; (try with_reducible rfl); done)); (try simp only [Act.put, List.getElem_toArray, List.getElem_cons_succ, List.getElem_cons_zero, List.setIfInBounds_toArray, List.set_cons_zero, List.set_cons_succ])
    refine takeF (i := 5) (v := ?_) rfl (by kernel_rfl) (fun _ _ _ h => h) (Or.inl ⟨by kernel_rfl, ?_⟩) (by assumption) ?_; rotate_left; (focus (intro w _; go_simp; (try with_reducible rfl); done)); (try simp only [Act.put, List.getElem_toArray, List.getElem_cons_succ, List.getElem_cons_zero, List.setIfInBounds_toArray, List.set_cons_zero, List.set_cons_succ])
    refine takeF (i := 6) (v := ?_) rfl (by kernel_rfl) (fun _ _ _ h => h) (Or.inl ⟨by kernel_rfl, ?_⟩) (by assumption) ?_; rotate_left; (focus (intro w _; go_simp; (try with_reducible rfl); done)); (try simp only [Act.put, List.getElem_toArray, List.getElem_cons_succ, List.getElem_cons_zero, List.setIfInBounds_toArray, List.set_cons_zero, List.set_cons_succ])
    refine takeF (i := 7) (v := ?_) rfl (by kernel_rfl) (fun _ _ _ h => h) (Or.inl ⟨by kernel_rfl, ?_⟩) (by assumption) ?_; rotate_left; (focus (intro w _; go_simp; (try with_reducible rfl); done)); (try simp only [Act.put, List.getElem_toArray, List.getElem_cons_succ, List.getElem_cons_zero, List.setIfInBounds_toArray, List.set_cons_zero, List.set_cons_succ])
    refine takeH (i := 8) (v := ?_) rfl (by kernel_rfl) (fun _ _ _ h => h) (Or.inl ⟨by kernel_rfl, ?_⟩) (by assumption) ?_; rotate_left; (focus (intro w hSw; (try dsimp only at hSw); go_simp; (try with_reducible rfl); done)); (try simp only [Act.put, List.getElem_toArray, List.getElem_cons_succ, List.getElem_cons_zero, List.setIfInBounds_toArray, List.set_cons_zero, List.set_cons_succ])
    clear hHeld0
    refine readyS (rs := [9]) (by kernel_rfl) (by simp) ?_
    refine ReadyS.consP rfl (by kernel_rfl) (fun K hK => ?_) ReadyS.nil
    (try simp only [List.getElem_toArray, List.getElem_cons_succ, List.getElem_cons_zero])
    go_simp
    (with_reducible refine (HCm.out.use x y W0 HOx.out HOy.out HP1.out).mono ?_); rintro e w2 ⟨rfl, hb2⟩
    have HD2 := Lib.hid (below_up HD1.out hb2)
    clear hb2
    have hcc := HCC.out
    refine hK.out _ _ ?_
    clear hK K
    (try simp only [Act.put, List.getElem_toArray, List.getElem_cons_succ, List.getElem_cons_zero, List.setIfInBounds_toArray, List.set_cons_zero, List.set_cons_succ])
    refine takeP (i := 10) (v := ?_) rfl (by kernel_rfl) (fun _ _ _ h => h) (Or.inl ⟨by kernel_rfl, ?_⟩) ?_; rotate_left; (focus (intro w _; go_simp; (try with_reducible rfl); done)); (try simp only [Act.put, List.getElem_toArray, List.getElem_cons_succ, List.getElem_cons_zero, List.setIfInBounds_toArray, List.set_cons_zero, List.set_cons_succ])
    refine takeP (i := 11) (v := ?_) rfl (by kernel_rfl) (fun _ _ _ h => h) (Or.inl ⟨by kernel_rfl, ?_⟩) ?_; rotate_left; (focus (intro w _; go_simp; (try with_reducible rfl); done)); (try simp only [Act.put, List.getElem_toArray, List.getElem_cons_succ, List.getElem_cons_zero, List.setIfInBounds_toArray, List.set_cons_zero, List.set_cons_succ])
    refine doneS (by kernel_rfl) ?_ _
    clear hcc
    cases c with
    | false =>
      go_wp2
      exact ⟨⟨H + 1, j, by go_num, rfl, by omega, by omega, hj1, fun _ => HC.out, HRr.out, HD2.out⟩, by simp [intOf]; omega⟩
    | true =>
      go_wp2
      exact ⟨⟨i, H, rfl, rfl, hi1, by omega, by omega, HL.out, fun _ => HC.out, HD2.out⟩, by simp [intOf]; omega⟩
  · obtain rfl : i = j := by omega
    have d : decide (i < i) = false := decide_eq_false (by omega)
    have di : decide ((i : Int) < i) = false := decide_eq_false (by omega)
    have HPut : Hid (Sorted (ltc cm) (rot f i m (m + 1)) a b ∧ Mix f (rot f i m (m + 1)) a b) := Lib.hid (by
      obtain rfl : b = m + 1 := by omega
      exact put_last (i := i) HSw.out HS1.out HT.out hi1 hj1 HL.out HRr.out)
    have HR0 := Lib.hid (own_below HH.out HB.out)
    go_wp2_with fail
    go_loopw [17] (fun vk W' => ∃ k : Nat, vk = .int .i64 k ∧ i ≤ k ∧ k ≤ m ∧ RowF W' base g N cap (rot f k m (m + 1)) ∧ Fr (fun k => k = g) W W') (fun vk _ => (intOf vk).toNat)
    case atStart => exact ⟨m, rfl, by omega, Nat.le_refl _, by rw [rot_none']; exact HR0.out, Fr.of_below HB.out⟩
    case round =>
    obtain ⟨k, rfl, hk1, hk2, hR, hF⟩ := hrel
    have HRk := Lib.hid hR
    have HFk := Lib.hid hF
    clear hR hF
    by_cases hkI : i < k
    · have d1 : decide (i < k) = true := decide_eq_true hkI
      have d1i : decide ((i : Int) < k) = true := decide_eq_true (by omega)
      have d1g : decide ((k : Int) > i) = true := decide_eq_true (by omega)
      have kk : IntKind.i64.wrap ((k : Int) - 1) = ((k - 1 : Nat) : Int) := by rw [IntWalk.i64_in _ (by omega)]; omega
      obtain ⟨B, hBk⟩ : ∃ x, k - 1 = x := ⟨_, rfl⟩
      have kk2 : (k : Int) - 1 = (B : Int) := by omega
      rw [hBk] at kk
      have bA : (k : Int) < N := by omega
      have bB : (B : Int) < N := by omega
      have kA0 : IntKind.i64.wrap (k : Int) = (k : Int) := by rw [IntWalk.i64_in _ (by omega)]
      have kB0 : IntKind.i64.wrap (B : Int) = (B : Int) := by rw [IntWalk.i64_in _ (by omega)]
      have hAN : k < N := by omega
      have hBN : B < N := by omega
      go_upto_region 23 with (fail)
      have hd := below_drew1 (w := wr)
      have HR3 := Lib.hid (own_below HRk.out hd)
      have HF3 := Lib.hid (HFk.out.below hd)
      obtain ⟨fa, hfz⟩ := row_at HR3.out hAN
      obtain ⟨fb, _⟩ := row_at HR3.out hBN
      have hset := row_set HR3.out hAN hBN
      have hset1 := row_set1 HR3.out hAN (rot f k m (m + 1) B).1
      generalize (rot f k m (m + 1) k).1 = x at *
      generalize (rot f k m (m + 1) B).1 = y at *
      have HSet := Lib.hid hset
      have HSet1 := Lib.hid hset1
      clear hd hset hset1
      refine beginS (S := fun W => At4 W g k x ∧ At4 W g B y) [15, 17] (by kernel_rfl) ⟨fa, fb⟩ (fun hHeld0 => ?_)
      generalize (World.drew wr) = W0 at *
      clear fb
      refine takeF (i := 0) (v := ?_) rfl (by kernel_rfl) (fun _ _ _ h => h) (Or.inl ⟨by kernel_rfl, ?_⟩) (by assumption) ?_; rotate_left; (focus (intro w _; go_simp; (try with_reducible rfl); done)); (try simp only [Act.put, List.getElem_toArray, List.getElem_cons_succ, List.getElem_cons_zero, List.setIfInBounds_toArray, List.set_cons_zero, List.set_cons_succ])
      refine takeF (i := 1) (v := ?_) rfl (by kernel_rfl) (fun _ _ _ h => h) (Or.inl ⟨by kernel_rfl, ?_⟩) (by assumption) ?_; rotate_left; (focus (intro w _; go_simp; (try with_reducible rfl); done)); (try simp only [Act.put, List.getElem_toArray, List.getElem_cons_succ, List.getElem_cons_zero, List.setIfInBounds_toArray, List.set_cons_zero, List.set_cons_succ])
      refine takeF (i := 2) (v := ?_) rfl (by kernel_rfl) (fun _ _ _ h => h) (Or.inl ⟨by kernel_rfl, ?_⟩) (by assumption) ?_; rotate_left; (focus (intro w _; go_simp; (try with_reducible rfl); done)); (try simp only [Act.put, List.getElem_toArray, List.getElem_cons_succ, List.getElem_cons_zero, List.setIfInBounds_toArray, List.set_cons_zero, List.set_cons_succ])
      refine takeF (i := 3) (v := ?_) rfl (by kernel_rfl) (fun _ _ _ h => h) (Or.inl ⟨by kernel_rfl, ?_⟩) (by assumption) ?_; rotate_left; (focus (intro w _; go_simp; (try with_reducible rfl); done)); (try simp only [Act.put, List.getElem_toArray, List.getElem_cons_succ, List.getElem_cons_zero, List.setIfInBounds_toArray, List.set_cons_zero, List.set_cons_succ])
      refine takeF (i := 4) (v := ?_) rfl (by kernel_rfl) (fun _ _ _ h => h) (Or.inl ⟨by kernel_rfl, ?_⟩) (by assumption) ?_; rotate_left; (focus (intro w _; go_simp; (try with_reducible rfl); done)); (try simp only [Act.put, List.getElem_toArray, List.getElem_cons_succ, List.getElem_cons_zero, List.setIfInBounds_toArray, List.set_cons_zero, List.set_cons_succ])
      refine takeF (i := 5) (v := ?_) rfl (by kernel_rfl) (fun _ _ _ h => h) (Or.inl ⟨by kernel_rfl, ?_⟩) (by assumption) ?_; rotate_left; (focus (intro w _; go_simp; (try with_reducible rfl); done)); (try simp only [Act.put, List.getElem_toArray, List.getElem_cons_succ, List.getElem_cons_zero, List.setIfInBounds_toArray, List.set_cons_zero, List.set_cons_succ])
      refine takeF (i := 6) (v := ?_) rfl (by kernel_rfl) (fun _ _ _ h => h) (Or.inl ⟨by kernel_rfl, ?_⟩) (by assumption) ?_; rotate_left; (focus (intro w _; go_simp; (try with_reducible rfl); done)); (try simp only [Act.put, List.getElem_toArray, List.getElem_cons_succ, List.getElem_cons_zero, List.setIfInBounds_toArray, List.set_cons_zero, List.set_cons_succ])
      refine takeF (i := 7) (v := ?_) rfl (by kernel_rfl) (fun _ _ _ h => h) (Or.inl ⟨by kernel_rfl, ?_⟩) (by assumption) ?_; rotate_left; (focus (intro w _; go_simp; (try with_reducible rfl); done)); (try simp only [Act.put, List.getElem_toArray, List.getElem_cons_succ, List.getElem_cons_zero, List.setIfInBounds_toArray, List.set_cons_zero, List.set_cons_succ])
      refine takeF (i := 8) (v := ?_) rfl (by kernel_rfl) (fun _ _ _ h => h) (Or.inl ⟨by kernel_rfl, ?_⟩) (by assumption) ?_; rotate_left; (focus (intro w _; go_simp; (try with_reducible rfl); done)); (try simp only [Act.put, List.getElem_toArray, List.getElem_cons_succ, List.getElem_cons_zero, List.setIfInBounds_toArray, List.set_cons_zero, List.set_cons_succ])
      refine takeH (i := 9) (v := ?_) rfl (by kernel_rfl) (fun _ _ _ h => h) (Or.inl ⟨by kernel_rfl, ?_⟩) (by assumption) ?_; rotate_left; (focus (intro w hSw; (try dsimp only at hSw); go_simp; (try with_reducible rfl); done)); (try simp only [Act.put, List.getElem_toArray, List.getElem_cons_succ, List.getElem_cons_zero, List.setIfInBounds_toArray, List.set_cons_zero, List.set_cons_succ])
      refine takeF (i := 10) (v := ?_) rfl (by kernel_rfl) (fun _ _ _ h => h) (Or.inl ⟨by kernel_rfl, ?_⟩) (by assumption) ?_; rotate_left; (focus (intro w _; go_simp; (try with_reducible rfl); done)); (try simp only [Act.put, List.getElem_toArray, List.getElem_cons_succ, List.getElem_cons_zero, List.setIfInBounds_toArray, List.set_cons_zero, List.set_cons_succ])
      refine takeF (i := 11) (v := ?_) rfl (by kernel_rfl) (fun _ _ _ h => h) (Or.inl ⟨by kernel_rfl, ?_⟩) (by assumption) ?_; rotate_left; (focus (intro w _; go_simp; (try with_reducible rfl); done)); (try simp only [Act.put, List.getElem_toArray, List.getElem_cons_succ, List.getElem_cons_zero, List.setIfInBounds_toArray, List.set_cons_zero, List.set_cons_succ])
      refine takeF (i := 12) (v := ?_) rfl (by kernel_rfl) (fun _ _ _ h => h) (Or.inl ⟨by kernel_rfl, ?_⟩) (by assumption) ?_; rotate_left; (focus (intro w _; go_simp; (try with_reducible rfl); done)); (try simp only [Act.put, List.getElem_toArray, List.getElem_cons_succ, List.getElem_cons_zero, List.setIfInBounds_toArray, List.set_cons_zero, List.set_cons_succ])
      refine takeH (i := 13) (v := ?_) rfl (by kernel_rfl) (fun _ _ _ h => h) (Or.inl ⟨by kernel_rfl, ?_⟩) (by assumption) ?_; rotate_left; (focus (intro w hSw; (try dsimp only at hSw); go_simp; (try with_reducible rfl); done)); (try simp only [Act.put, List.getElem_toArray, List.getElem_cons_succ, List.getElem_cons_zero, List.setIfInBounds_toArray, List.set_cons_zero, List.set_cons_succ])
      refine takeF (i := 14) (v := ?_) rfl (by kernel_rfl) (fun _ _ _ h => h) (Or.inl ⟨by kernel_rfl, ?_⟩) (by assumption) ?_; rotate_left; (focus (intro w _; go_simp; (try with_reducible rfl); done)); (try simp only [Act.put, List.getElem_toArray, List.getElem_cons_succ, List.getElem_cons_zero, List.setIfInBounds_toArray, List.set_cons_zero, List.set_cons_succ])
      clear hHeld0
      refine readyS (rs := [15]) (by kernel_rfl) (by simp) ?_
      refine ReadyS.consP rfl (by kernel_rfl) (fun K hK => ?_) ReadyS.nil
      (try simp only [List.getElem_toArray, List.getElem_cons_succ, List.getElem_cons_zero])
      go_simp
      refine hK.out _ (set4 W0 g k y) ?_
      clear hK K
      obtain ⟨fb, hfz1⟩ := row_at HSet1.out hBN
      rw [if_neg (show ¬ B = k by omega)] at fb
      have HF4 := Lib.hid (HF3.out.trans (fr_sw W0 g k B y x) (fun _ _ h => h))
      generalize hW1 : set4 W0 g k y = W1 at *
      clear fa hfz hW1
      refine takeP (i := 16) (v := ?_) rfl (by kernel_rfl) (fun _ _ _ h => h) (Or.inl ⟨by kernel_rfl, ?_⟩) ?_; rotate_left; (focus (intro w _; go_simp; (try with_reducible rfl); done)); (try simp only [Act.put, List.getElem_toArray, List.getElem_cons_succ, List.getElem_cons_zero, List.setIfInBounds_toArray, List.set_cons_zero, List.set_cons_succ])
      refine readyS (rs := [17]) (by kernel_rfl) (by simp) ?_
      refine ReadyS.consP rfl (by kernel_rfl) (fun K hK => ?_) ReadyS.nil
      (try simp only [List.getElem_toArray, List.getElem_cons_succ, List.getElem_cons_zero])
      go_simp
      refine hK.out _ (set4 W1 g B x) ?_
      clear hK K
      generalize set4 W1 g B x = W2 at *
      clear fb hfz1
      refine doneS (by kernel_rfl) ?_ _
      go_wp2
      refine ⟨⟨B, rfl, by omega, by omega, ?_, HF4.out⟩, by simp [intOf]; omega⟩
      have h1 := HSet.out
      have h2 := rot_back f (k := k) (m := m) (by omega) hk2
      rw [← hBk] at h1 ⊢
      rw [h2] at h1
      exact h1
    · obtain rfl : k = i := by omega
      have d1 : decide (k < k) = false := decide_eq_false (by omega)
      have d1i : decide ((k : Int) < k) = false := decide_eq_false (by omega)
      have d1g : decide ((k : Int) > k) = false := decide_eq_false (by omega)
      go_wp2
      (try simp only [Exit.inBlock, Exit.then])
      refine bodyPost_ret (results_none rfl _ _ _) rfl ?_
      exact ⟨rfl, _, HRk.out, HPut.out.1, HPut.out.2, HFk.out⟩
end Go.Proofs.Ytdomngpkahgoiaa.StC
