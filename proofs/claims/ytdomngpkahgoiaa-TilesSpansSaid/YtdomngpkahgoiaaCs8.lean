/- The walk over slices.symMergeCmpFunc: the halves. -/
import Derived.Test.YtdomngpkahgoiaaCs7
namespace Go.Proofs.Ytdomngpkahgoiaa.StC
open Go.RowKit Rg Ti St
set_option linter.unusedVariables false
set_option linter.unusedSimpArgs false
set_option maxHeartbeats 4000000 in
set_option maxRecDepth 100000 in
theorem sym3_ok {base g N cap : Nat} (hN : N ≤ 4398046511104) {F : Nat} {caps : Array Value} {CP : World → Prop} {OK : CeS → Prop} {cm : CeS → CeS → Int} (hC : CmpOk F caps CP OK cm) (hw : SWO (ltc cm)) (hK : Kept CP g) (hRun : RunsF F)
    (W : World) (hcp : CP W) (f : Row (CeS × Nat)) (h : RowF W base g N cap f) (hOK : ∀ i, i < N → OK (f i).1) (a m b : Nat) (ha : a < m) (hm : m < b) (hb : b ≤ N) (h1 : a + 1 < m) (h2 : m + 1 < b) (hs1 : Sorted (ltc cm) f a m) (hs2 : Sorted (ltc cm) f m b) (ht : TagLt f a m b) 
    (ih : ∀ (W : World), CP W → ∀ (f : Row (CeS × Nat)), RowF W base g N cap f → (∀ i, i < N → OK (f i).1) → ∀ a' m' b' : Nat, b' - a' < b - a → a' < m' → m' < b' → b' ≤ N → Sorted (ltc cm) f a' m' → Sorted (ltc cm) f m' b' → TagLt f a' m' b' →
      Calls Try.prog 87 #[.slice (some ⟨g, 0, none⟩) N cap, .int .i64 a', .int .i64 m', .int .i64 b', .func (.func F) #[] caps] W fun e w' => e = .returned (.tuple #[]) ∧ ∃ f', RowF w' base g N cap f' ∧ Sorted (ltc cm) f' a' b' ∧ Mix f f' a' b' ∧ Fr (fun k => k = g) W w') :
    Calls Try.prog 87 #[.slice (some ⟨g, 0, none⟩) N cap, .int .i64 a, .int .i64 m, .int .i64 b, .func (.func F) #[] caps] W fun e w' => e = .returned (.tuple #[]) ∧ ∃ f', RowF w' base g N cap f' ∧ Sorted (ltc cm) f' a b ∧ Mix f f' a b ∧ Fr (fun k => k = g) W w' := by
  have HH := Lib.hid h
  have HOK := Lib.hid hOK
  have HT := Lib.hid ht
  have HS1 := Lib.hid hs1
  have HS2 := Lib.hid hs2
  have HCm := Lib.hid hC
  have HKp := Lib.hid hK
  have HSw := Lib.hid hw
  have HCP := Lib.hid hcp
  have hrun : ∀ (args : Array Value) (W : World), (callFunc F args).run Try.prog W = .ok (.enter F args) W := hRun
  have HIH := Lib.hid ih
  clear ih
  clear h hOK hs1 hs2 ht hC hK hw hcp hRun
  have k0 : ((m : Int) - a == 1) = false := by rw [beq_eq_false_iff_ne]; omega
  have k1 : ((b : Int) - m == 1) = false := by rw [beq_eq_false_iff_ne]; omega
  obtain ⟨mid, hmid⟩ : ∃ x, (a + b) / 2 = x := ⟨_, rfl⟩
  have km : ((a : Int) + b) / 2 = (mid : Int) := by omega
  have hmid1 : a + b ≤ 2 * mid + 1 := by omega
  have hmid2 : 2 * mid ≤ a + b := by omega
  clear hmid
  obtain ⟨n, hn⟩ : ∃ x, mid + m = x := ⟨_, rfl⟩
  have kn : IntKind.i64.wrap ((mid : Int) + m) = (n : Int) := by rw [IntWalk.i64_in _ (by omega)]; omega
  have kn2 : (mid : Int) + m = (n : Int) := by omega
  have kp : IntKind.i64.wrap ((n : Int) - 1) = ((n - 1 : Nat) : Int) := by rw [IntWalk.i64_in _ (by omega)]; omega
  have kp2 : (n : Int) - 1 = ((n - 1 : Nat) : Int) := by omega
  obtain ⟨p, hp⟩ : ∃ x, n - 1 = x := ⟨_, rfl⟩
  rw [hp] at kp kp2
  have hn1 : mid + m ≤ n := by omega
  have hn2 : n ≤ mid + m := by omega
  have hp1 : n ≤ p + 1 := by omega
  have hp2 : p + 1 ≤ n := by omega
  clear hn hp
  obtain ⟨s0, r0, hs0⟩ : ∃ s0 r0 : Nat, (mid < m ∧ s0 + b = n ∧ r0 = mid) ∨ (m ≤ mid ∧ s0 = a ∧ r0 = m) := by
    rcases Nat.lt_or_ge mid m with c | c
    · exact ⟨n - b, mid, .inl ⟨c, by omega, rfl⟩⟩
    · exact ⟨a, m, .inr ⟨c, rfl, rfl⟩⟩
  have HS0 := Lib.hid hs0
  have hs1 : a ≤ s0 := by omega
  have hs2 : s0 ≤ r0 := by omega
  have hs3 : r0 ≤ m := by omega
  have hs4 : r0 ≤ mid := by omega
  have hs5 : m + r0 ≤ n := by omega
  have hs6 : n ≤ b + s0 := by omega
  go_enter Try.func87, Try.ntmps87
  go_upto_if 140 with (fail)
  go_cut [20, 21] from 138 to 146 (fun v20 v21 wx => v20 = .int .i64 s0 ∧ v21 = .int .i64 r0 ∧ wx = W)
  case first =>
    rcases hs0 with ⟨c1, c2, rfl⟩ | ⟨c1, rfl, rfl⟩
    · have d1 : decide ((m : Int) > r0) = true := decide_eq_true (by omega)
      have d2 : decide ((r0 : Int) < m) = true := decide_eq_true (by omega)
      have d3 : decide (r0 < m) = true := decide_eq_true (by omega)
      have ks : IntKind.i64.wrap ((n : Int) - b) = (s0 : Int) := by rw [IntWalk.i64_in _ (by omega)]; omega
      have ks2 : (n : Int) - b = (s0 : Int) := by omega
      go_wp2
      go_meet
      case rel => exact ⟨rfl, rfl, rfl⟩
    · have d1 : decide ((r0 : Int) > mid) = false := decide_eq_false (by omega)
      have d2 : decide ((mid : Int) < r0) = false := decide_eq_false (by omega)
      have d3 : decide (mid < r0) = false := decide_eq_false (by omega)
      go_wp2
      go_meet
      case rel => exact ⟨rfl, rfl, rfl⟩
  case rest =>
  obtain ⟨rfl, rfl, hwc⟩ := hcut
  replace hwc := hwc.symm; subst hwc
  clear hs0
  go_wp2_with fail
  go_loopw [20, 21] (fun vs vr W' => ∃ (s r : Nat), vs = .int .i64 s ∧ vr = .int .i64 r ∧ s0 ≤ s ∧ s ≤ r ∧ r ≤ r0 ∧ (s0 < s → ltc cm (f (n - s)).1 (f (s - 1)).1 = false) ∧ (r < r0 → ltc cm (f (p - r)).1 (f r).1 = true) ∧ Below W.heap.size W W') (fun vs vr _ => (intOf vr).toNat - (intOf vs).toNat)
  case atStart => exact ⟨s0, r0, rfl, rfl, Nat.le_refl _, hs2, Nat.le_refl _, fun h => by omega, fun h => by omega, Below.refl _ _⟩
  case round =>
  obtain ⟨s, r, rfl, rfl, hi1, hij, hj1, hl, hr, hB⟩ := hrel
  have HB := Lib.hid hB
  have HL := Lib.hid hl
  have HRr := Lib.hid hr
  clear hB hl hr
  by_cases hlt : s < r
  · have d : decide (s < r) = true := decide_eq_true hlt
    have di : decide ((s : Int) < r) = true := decide_eq_true (by omega)
    obtain ⟨H, hh⟩ : ∃ h, (s + r) / 2 = h := ⟨_, rfl⟩
    have hh1 : s ≤ H := by omega
    have hh2 : H < r := by omega
    have kh : ((s : Int) + r) / 2 = (H : Int) := by omega
    have bH : (H : Int) < N := by omega
    have bH0 : IntKind.i64.wrap (H : Int) = (H : Int) := by rw [IntWalk.i64_in _ (by omega)]
    have kh1 : IntKind.i64.wrap ((H : Int) + 1) = ((H + 1 : Nat) : Int) := by rw [IntWalk.i64_in _ (by omega)]; omega
    clear hh
    obtain ⟨Q, hQ⟩ : ∃ x, p - H = x := ⟨_, rfl⟩
    have kq : IntKind.i64.wrap ((p : Int) - H) = (Q : Int) := by rw [IntWalk.i64_in _ (by omega)]; omega
    have kq2 : (p : Int) - H = (Q : Int) := by omega
    have bQ : (Q : Int) < N := by omega
    have bQ0 : IntKind.i64.wrap (Q : Int) = (Q : Int) := by rw [IntWalk.i64_in _ (by omega)]
    have hQN : Q < N := by omega
    have HQ := Lib.hid hQ
    clear hQ
    obtain ⟨c, hc⟩ : ∃ c, ltc cm (f Q).1 (f H).1 = c := ⟨_, rfl⟩
    have HC := Lib.hid hc
    go_upto_region 35 with (fail)
    have hd := below_drew1 (w := wr)
    have hbd := below_up HB.out hd
    have HR1 := Lib.hid (own_below HH.out hbd)
    have HP1 := Lib.hid (HKp.out _ _ HCP.out (Fr.of_below hbd))
    have HD1 := Lib.hid hbd
    obtain ⟨fa, _⟩ := row_at HR1.out (k := Q) (by omega)
    obtain ⟨fb, _⟩ := row_at HR1.out (k := H) (by omega)
    have HOx := Lib.hid (HOK.out Q (by omega))
    have HOy := Lib.hid (HOK.out H (by omega))
    generalize (f Q).1 = x at fa hc HOx
    generalize (f H).1 = y at fb hc HOy
    have hcc : decide (cm x y < 0) = c := hc
    have HCC := Lib.hid hcc
    clear hd hbd hc hcc
    refine beginS (S := fun W => At4 W g Q x ∧ At4 W g H y) [11] (by kernel_rfl) ⟨fa, fb⟩ (fun hHeld0 => ?_)
    generalize (World.drew wr) = W0 at *
    clear fa fb
    refine takeF (i := 0) (v := ?_) rfl (by kernel_rfl) (fun _ _ _ h => h) (Or.inl ⟨by kernel_rfl, ?_⟩) (by assumption) ?_; rotate_left; (focus (intro w _; go_simp; (try with_reducible rfl); done)); (try simp only [Act.put, List.getElem_toArray, List.getElem_cons_succ, List.getElem_cons_zero, List.setIfInBounds_toArray, List.set_cons_zero, List.set_cons_succ])
    refine takeF (i := 1) (v := ?_) rfl (by kernel_rfl) (fun _ _ _ h => h) (Or.inl ⟨by kernel_rfl, ?_⟩) (by assumption) ?_; rotate_left; (focus (intro w _; go_simp; (try with_reducible rfl); done)); (try simp only [Act.put, List.getElem_toArray, List.getElem_cons_succ, List.getElem_cons_zero, List.setIfInBounds_toArray, List.set_cons_zero, List.set_cons_succ])
    refine takeF (i := 2) (v := ?_) rfl (by kernel_rfl) (fun _ _ _ h => h) (Or.inl ⟨by kernel_rfl, ?_⟩) (by assumption) ?_; rotate_left; (focus (intro w _; go_simp; (try with_reducible rfl); done)); (try simp only [Act.put, List.getElem_toArray, List.getElem_cons_succ, List.getElem_cons_zero, List.setIfInBounds_toArray, List.set_cons_zero, List.set_cons_succ])
    refine takeF (i := 3) (v := ?_) rfl (by kernel_rfl) (fun _ _ _ h => h) (Or.inl ⟨by kernel_rfl, ?_⟩) (by assumption) ?_; rotate_left; (focus (intro w _; go_simp; (try with_reducible rfl); done)); (try simp only [Act.put, List.getElem_toArray, List.getElem_cons_succ, List.getElem_cons_zero, List.setIfInBounds_toArray, List.set_cons_zero, List.set_cons_succ])
    refine takeF (i := 4) (v := ?_) rfl (by kernel_rfl) (fun _ _ _ h => h) (Or.inl ⟨by kernel_rfl, ?_⟩) (by assumption) ?_; rotate_left; (focus (intro w _; go_simp; (try with_reducible rfl); done)); (try simp only [Act.put, List.getElem_toArray, List.getElem_cons_succ, List.getElem_cons_zero, List.setIfInBounds_toArray, List.set_cons_zero, List.set_cons_succ])
    refine takeF (i := 5) (v := ?_) rfl (by kernel_rfl) (fun _ _ _ h => h) (Or.inl ⟨by kernel_rfl, ?_⟩) (by assumption) ?_; rotate_left; (focus (intro w _; go_simp; (try with_reducible rfl); done)); (try simp only [Act.put, List.getElem_toArray, List.getElem_cons_succ, List.getElem_cons_zero, List.setIfInBounds_toArray, List.set_cons_zero, List.set_cons_succ])
    refine takeH (i := 6) (v := ?_) rfl (by kernel_rfl) (fun _ _ _ h => h) (Or.inl ⟨by kernel_rfl, ?_⟩) (by assumption) ?_; rotate_left; (focus (intro w hSw; (try dsimp only at hSw); go_simp; (try with_reducible rfl); done)); (try simp only [Act.put, List.getElem_toArray, List.getElem_cons_succ, List.getElem_cons_zero, List.setIfInBounds_toArray, List.set_cons_zero, List.set_cons_succ])
    refine takeF (i := 7) (v := ?_) rfl (by kernel_rfl) (fun _ _ _ h => h) (Or.inl ⟨by kernel_rfl, ?_⟩) (by assumption) ?_; rotate_left; (focus (intro w _; go_simp; (try with_reducible rfl); done)); (try simp only [Act.put, List.getElem_toArray, List.getElem_cons_succ, List.getElem_cons_zero, List.setIfInBounds_toArray, List.set_cons_zero, List.set_cons_succ])
    refine takeF (i := 8) (v := ?_) rfl (by kernel_rfl) (fun _ _ _ h => h) (Or.inl ⟨by kernel_rfl, ?_⟩) (by assumption) ?_; rotate_left; (focus (intro w _; go_simp; (try with_reducible rfl); done)); (try simp only [Act.put, List.getElem_toArray, List.getElem_cons_succ, List.getElem_cons_zero, List.setIfInBounds_toArray, List.set_cons_zero, List.set_cons_succ])
    refine takeF (i := 9) (v := ?_) rfl (by kernel_rfl) (fun _ _ _ h => h) (Or.inl ⟨by kernel_rfl, ?_⟩) (by assumption) ?_; rotate_left; (focus (intro w _; go_simp; (try with_reducible rfl); done)); (try simp only [Act.put, List.getElem_toArray, List.getElem_cons_succ, List.getElem_cons_zero, List.setIfInBounds_toArray, List.set_cons_zero, List.set_cons_succ])
    refine takeH (i := 10) (v := ?_) rfl (by kernel_rfl) (fun _ _ _ h => h) (Or.inl ⟨by kernel_rfl, ?_⟩) (by assumption) ?_; rotate_left; (focus (intro w hSw; (try dsimp only at hSw); go_simp; (try with_reducible rfl); done)); (try simp only [Act.put, List.getElem_toArray, List.getElem_cons_succ, List.getElem_cons_zero, List.setIfInBounds_toArray, List.set_cons_zero, List.set_cons_succ])
    clear hHeld0
    refine readyS (rs := [11]) (by kernel_rfl) (by simp) ?_
    refine ReadyS.consP rfl (by kernel_rfl) (fun K hK => ?_) ReadyS.nil
    (try simp only [List.getElem_toArray, List.getElem_cons_succ, List.getElem_cons_zero])
    go_simp
    (with_reducible refine (HCm.out.use x y W0 HOx.out HOy.out HP1.out).mono ?_); rintro e w2 ⟨rfl, hb2⟩
    have HD2 := Lib.hid (below_up HD1.out hb2)
    clear hb2
    have hcc := HCC.out
    refine hK.out _ _ ?_
    clear hK K
    (try simp only [Act.put, List.getElem_toArray, List.getElem_cons_succ, List.getElem_cons_zero, List.setIfInBounds_toArray, List.set_cons_zero, List.set_cons_succ])
    refine takeP (i := 12) (v := ?_) rfl (by kernel_rfl) (fun _ _ _ h => h) (Or.inl ⟨by kernel_rfl, ?_⟩) ?_; rotate_left; (focus (intro w _; go_simp; (try with_reducible rfl); done)); (try simp only [Act.put, List.getElem_toArray, List.getElem_cons_succ, List.getElem_cons_zero, List.setIfInBounds_toArray, List.set_cons_zero, List.set_cons_succ])
    refine takeP (i := 13) (v := ?_) rfl (by kernel_rfl) (fun _ _ _ h => h) (Or.inl ⟨by kernel_rfl, ?_⟩) ?_; rotate_left; (focus (intro w _; go_simp; (try with_reducible rfl); done)); (try simp only [Act.put, List.getElem_toArray, List.getElem_cons_succ, List.getElem_cons_zero, List.setIfInBounds_toArray, List.set_cons_zero, List.set_cons_succ])
    refine doneS (by kernel_rfl) ?_ _
    clear hcc
    cases c with
    | false =>
      go_wp2
      exact ⟨⟨H + 1, r, by go_num, rfl, by omega, by omega, hj1, fun _ => by have h := HC.out; rw [← HQ.out] at h; rw [show n - (H + 1) = p - H by omega]; exact h, HRr.out, HD2.out⟩, by simp [intOf]; omega⟩
    | true =>
      go_wp2
      exact ⟨⟨s, H, rfl, rfl, hi1, by omega, by omega, HL.out, fun _ => by have h := HC.out; rw [← HQ.out] at h; exact h, HD2.out⟩, by simp [intOf]; omega⟩
  · obtain rfl : s = r := by omega
    have d : decide (s < s) = false := decide_eq_false (by omega)
    have di : decide ((s : Int) < s) = false := decide_eq_false (by omega)
    obtain ⟨e, he⟩ : ∃ x, n - s = x := ⟨_, rfl⟩
    have ke : IntKind.i64.wrap ((n : Int) - s) = (e : Int) := by rw [IntWalk.i64_in _ (by omega)]; omega
    have ke2 : (n : Int) - s = (e : Int) := by omega
    have he1 : m ≤ e := by omega
    have he2 : e ≤ b := by omega
    have hse : s + e = mid + m := by omega
    have hsm : s ≤ m := by omega
    have hH := halves HSw.out HS1.out HS2.out HT.out (s := s) (e := e) (mid := mid) (by omega) hsm he1 he2 hse (fun c1 c2 => by
        have := HL.out
        rw [he] at this
        exact this (by have := HS0.out; omega)) (fun c1 c2 => by
        have := HRr.out
        rw [show p - s = e - 1 by omega] at this
        exact this (by have := HS0.out; omega))
    have HHv := Lib.hid hH
    have HR0 := Lib.hid (own_below HH.out HB.out)
    have HF0 : Hid (Fr (fun k => k = g) W wr) := Lib.hid (Fr.of_below HB.out)
    clear hH he
    obtain ⟨c, hc⟩ : ∃ c, decide (s < m ∧ m < e) = c := ⟨_, rfl⟩
    have HCc := Lib.hid hc
    clear hc
    go_upto_region 39 with (fail)
    go_cut [185] from 178 to 185 (fun v wx => v = .bool c ∧ wx = wr)
    case first =>
      by_cases c1 : s < m
      · have x1 : decide (s < m) = true := decide_eq_true c1
        have x1i : decide ((s : Int) < m) = true := decide_eq_true (by omega)
        by_cases c2 : m < e
        · have x2 : decide (m < e) = true := decide_eq_true c2
          have x2i : decide ((m : Int) < e) = true := decide_eq_true (by omega)
          go_wp2
          go_meet
          case rel => exact ⟨by rw [← HCc.out, decide_eq_true (And.intro c1 c2)], rfl⟩
        · have x2 : decide (m < e) = false := decide_eq_false c2
          have x2i : decide ((m : Int) < e) = false := decide_eq_false (by omega)
          go_wp2
          go_meet
          case rel => exact ⟨by rw [← HCc.out, decide_eq_false (fun h => c2 h.2)], rfl⟩
      · have x1 : decide (s < m) = false := decide_eq_false c1
        have x1i : decide ((s : Int) < m) = false := decide_eq_false (by omega)
        go_wp2
        go_meet
        case rel => exact ⟨by rw [← HCc.out, decide_eq_false (fun h => c1 h.1)], rfl⟩
    case rest =>
    obtain ⟨rfl, hwc⟩ := hcut
    replace hwc := hwc.symm; subst hwc
    go_upto_if 185 with (fail)
    go_cut [] from 186 to 191 (fun wx => RowF wx base g N cap (rot f s m e) ∧ Fr (fun k => k = g) W wx)
    case first =>
      cases c with
      | true =>
        obtain ⟨c1, c2⟩ := of_decide_eq_true HCc.out
        have HRo := Lib.hid (rotate_ok hN (.func (.func F) #[] caps) wr f HR0.out s m e c1 c2 (by omega))
        go_wp2_with fail
        (with_reducible refine HRo.out.mono ?_); rintro e' w2 ⟨rfl, hR2, hF2⟩
        have HR2 := Lib.hid hR2
        have HF2 := Lib.hid (HF0.out.trans hF2 (fun _ _ h => h))
        clear hR2 hF2
        go_wp2
        go_meet
        case rel => exact ⟨HR2.out, HF2.out⟩
      | false =>
        have hcc := of_decide_eq_false HCc.out
        have HX : Hid (rot f s m e = f) := Lib.hid (by
          rcases Nat.lt_or_ge s m with c1 | c1
          · obtain rfl : m = e := by omega
            rw [rot_none]
          · obtain rfl : s = m := by omega
            rw [rot_none'])
        clear hcc
        go_wp2
        go_meet
        case rel => exact ⟨by rw [HX.out]; exact HR0.out, HF0.out⟩
    case rest =>
    obtain ⟨hR1, hF1⟩ := hcut
    have HR1 := Lib.hid hR1
    have HF1 := Lib.hid hF1
    have HP1 := Lib.hid (HKp.out _ _ HCP.out hF1)
    clear hR1 hF1
    obtain ⟨c, hc⟩ : ∃ c, decide (a < s ∧ s < mid) = c := ⟨_, rfl⟩
    have HCc := Lib.hid hc
    clear hc
    go_upto_region 41 with (fail)
    go_cut [199] from 192 to 199 (fun v wx => v = .bool c ∧ wx = wc)
    case first =>
      by_cases c1 : a < s
      · have x1 : decide (a < s) = true := decide_eq_true c1
        have x1i : decide ((a : Int) < s) = true := decide_eq_true (by omega)
        by_cases c2 : s < mid
        · have x2 : decide (s < mid) = true := decide_eq_true c2
          have x2i : decide ((s : Int) < mid) = true := decide_eq_true (by omega)
          go_wp2
          go_meet
          case rel => exact ⟨by rw [← HCc.out, decide_eq_true (And.intro c1 c2)], rfl⟩
        · have x2 : decide (s < mid) = false := decide_eq_false c2
          have x2i : decide ((s : Int) < mid) = false := decide_eq_false (by omega)
          go_wp2
          go_meet
          case rel => exact ⟨by rw [← HCc.out, decide_eq_false (fun h => c2 h.2)], rfl⟩
      · have x1 : decide (a < s) = false := decide_eq_false c1
        have x1i : decide ((a : Int) < s) = false := decide_eq_false (by omega)
        go_wp2
        go_meet
        case rel => exact ⟨by rw [← HCc.out, decide_eq_false (fun h => c1 h.1)], rfl⟩
    case rest =>
    obtain ⟨rfl, hwc⟩ := hcut
    replace hwc := hwc.symm; subst hwc
    go_upto_if 199 with (fail)
    go_cut [] from 200 to 205 (fun wx => ∃ f1, RowF wx base g N cap f1 ∧ Sorted (ltc cm) f1 a mid ∧ Mix (rot f s m e) f1 a mid ∧ Fr (fun k => k = g) W wx)
    case first =>
      cases c with
      | true =>
        obtain ⟨c1, c2⟩ := of_decide_eq_true HCc.out
        have HRo := Lib.hid (HIH.out wc HP1.out _ HR1.out (mix_ok HHv.out.2.2.2.2.2.2.1 hb HOK.out) a s mid (by omega) c1 c2 (by omega) HHv.out.1 HHv.out.2.1 HHv.out.2.2.1)
        go_wp2_with fail
        (with_reducible refine HRo.out.mono ?_); rintro e' w2 ⟨rfl, f1, hR2, hS2, hM2, hF2⟩
        have HR2 := Lib.hid (And.intro hR2 (And.intro hS2 hM2))
        have HF2 := Lib.hid (HF1.out.trans hF2 (fun _ _ h => h))
        clear hR2 hF2 hS2 hM2
        go_wp2
        go_meet
        case rel => exact ⟨f1, HR2.out.1, HR2.out.2.1, HR2.out.2.2, HF2.out⟩
      | false =>
        have hcc := of_decide_eq_false HCc.out
        have HX : Hid (Sorted (ltc cm) (rot f s m e) a mid) := Lib.hid (by
          rcases Nat.lt_or_ge a s with c1 | c1
          · have e1 : s = mid := by omega
            rw [← e1]; exact HHv.out.1
          · have e1 : a = s := by omega
            rw [e1]; exact HHv.out.2.1)
        clear hcc
        go_wp2
        go_meet
        case rel => exact ⟨_, HR1.out, HX.out, Mix.refl _ _ _, HF1.out⟩
    case rest =>
    obtain ⟨f1, hR2, hS2, hM2, hF2⟩ := hcut
    have HR2 := Lib.hid hR2
    have HS2' := Lib.hid hS2
    have HM2 := Lib.hid hM2
    have HF2 := Lib.hid hF2
    have HP2 := Lib.hid (HKp.out _ _ HCP.out hF2)
    clear hR2 hS2 hM2 hF2
    have HQ1 : Hid (Sorted (ltc cm) f1 mid e ∧ Sorted (ltc cm) f1 e b ∧ TagLt f1 mid e b) := Lib.hid (by
      have ho := HM2.out.out
      refine ⟨HHv.out.2.2.2.1.congr fun k k1 k2 => ho k (by omega), HHv.out.2.2.2.2.1.congr fun k k1 k2 => ho k (by omega), fun i j k1 k2 k3 k4 => ?_⟩
      rw [ho i (by omega), ho j (by omega)]
      exact HHv.out.2.2.2.2.2.1 i j k1 k2 k3 k4)
    have hend : ∀ f2 : Row (CeS × Nat), Sorted (ltc cm) f2 mid b → Mix f1 f2 mid b → Sorted (ltc cm) f2 a b ∧ Mix f f2 a b := fun f2 k1 k2 => by
      have := halves_end (by omega) (by omega) HHv.out.2.2.2.2.2.2.2 HM2.out HS2'.out k2 k1
      exact ⟨this.1, HHv.out.2.2.2.2.2.2.1.trans this.2⟩
    have HEnd := Lib.hid hend
    clear hend
    by_cases c1 : mid < e
    · have x1 : decide (mid < e) = true := decide_eq_true c1
      have x1i : decide ((mid : Int) < e) = true := decide_eq_true (by omega)
      by_cases c2 : e < b
      · have x2 : decide (e < b) = true := decide_eq_true c2
        have x2i : decide ((e : Int) < b) = true := decide_eq_true (by omega)
        have HRo := Lib.hid (HIH.out wc HP2.out _ HR2.out (mix_ok HM2.out (by omega) (mix_ok HHv.out.2.2.2.2.2.2.1 hb HOK.out)) mid e b (by omega) c1 c2 (by omega) HQ1.out.1 HQ1.out.2.1 HQ1.out.2.2)
        go_wp2_with fail
        (with_reducible refine HRo.out.mono ?_); rintro e' w2 ⟨rfl, f2, hR3, hS3, hM3, hF3⟩
        have HR3 := Lib.hid (And.intro hR3 (HEnd.out f2 hS3 hM3))
        have HF3 := Lib.hid (HF2.out.trans hF3 (fun _ _ h => h))
        clear hR3 hF3 hS3 hM3
        go_wp2
        go_end0
        exact ⟨rfl, f2, HR3.out.1, HR3.out.2.1, HR3.out.2.2, HF3.out⟩
      · have x2 : decide (e < b) = false := decide_eq_false c2
        have x2i : decide ((e : Int) < b) = false := decide_eq_false (by omega)
        have HX := Lib.hid (HEnd.out f1 (by
          obtain rfl : e = b := by omega
          exact HQ1.out.1) (Mix.refl _ _ _))
        go_wp2
        go_end0
        exact ⟨rfl, f1, HR2.out, HX.out.1, HX.out.2, HF2.out⟩
    · have x1 : decide (mid < e) = false := decide_eq_false c1
      have x1i : decide ((mid : Int) < e) = false := decide_eq_false (by omega)
      have HX := Lib.hid (HEnd.out f1 (by
        obtain rfl : mid = e := by omega
        exact HQ1.out.2.1) (Mix.refl _ _ _))
      go_wp2
      go_end0
      exact ⟨rfl, f1, HR2.out, HX.out.1, HX.out.2, HF2.out⟩
end Go.Proofs.Ytdomngpkahgoiaa.StC
