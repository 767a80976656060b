/- The walk over ZorderSorts. -/
import Derived.Test.YtjikndfpkhgnkaaZs2
import Derived.Deep.CutBlock
namespace Go.Proofs.Ytjikndfpkhgnkaa.St
open Go.RowKit Rg Pt
set_option linter.unusedVariables false
set_option linter.unusedSimpArgs false
set_option maxHeartbeats 8000000 in
set_option maxRecDepth 100000 in
theorem zsorts_walk (v vm : Value) (l lm : List PtS) (w : World) (hv : PRow w v l) (hvm : PRow w vm lm) (hl : l.length ≤ 4398046511103) (hlm : lm.length ≤ 4398046511103) (hf : ∀ x ∈ l, FineZ x) (hfm : ∀ x ∈ lm, FineZ x) :
    Calls Try.prog 13 #[v, vm] w fun e w' => e = .returned (.bool true) ∧ Below w.heap.size w w' := by
  have HV := Lib.hid hv
  have HM := Lib.hid hvm
  have HFn := Lib.hid (And.intro hf hfm)
  have HSt := Lib.hid (fun W (hv : PRow W v l) => zsort_ok v l hf W hv (by omega))
  have HAl := fun W => Zw.alive5_ok W
  clear hf hfm
  obtain ⟨A0, c0, rfl, hc0, _⟩ := hv
  obtain ⟨Am, cm0, rfl, hcm, _⟩ := hvm
  go_enter Try.func13, Try.ntmps13
  go_wp2_with fail
  (with_reducible refine (HAl _).mono ?_); rintro e w1 ⟨rfl, hw⟩
  have HB1 : Hid (Below w.heap.size w w1) := Lib.hid (by rw [hw]; exact Below.refl _ _)
  clear hw HAl
  go_wp2_with fail
  go_loopw [5, 6] (fun vo vi W' => ∃ (i : Nat) (Ao : Option Addr) (co : Nat), vi = .int .i64 i ∧ i ≤ l.length ∧ vo = .slice Ao i co ∧ i ≤ co ∧ PRow W' (.slice Ao i co) (byZ (l.take i)) ∧ Below w1.heap.size w1 W') (fun _ vi _ => l.length - (intOf vi).toNat)
  case atStart => exact ⟨0, none, 0, rfl, Nat.zero_le _, rfl, Nat.le_refl _, by simp [byZ]; exact srd_nil _ _ _, Below.refl _ _⟩
  case round =>
  obtain ⟨i, Ao, co, rfl, hi, rfl, hco, hO, hB⟩ := hrel
  have HO := Lib.hid hO
  have HBr := Lib.hid hB
  clear hO hB
  obtain ⟨w3, rfl⟩ : ∃ W, W = wr := ⟨_, rfl⟩
  by_cases hlt : i < l.length
  · have d : decide (i < l.length) = true := decide_eq_true hlt
    have di : decide ((i : Int) < l.length) = true := decide_eq_true (by omega)
    have bi : (i : Int) < l.length := by omega
    obtain ⟨own, hown⟩ : ∃ own, byZ (l.take i) = own := ⟨_, rfl⟩
    have hol : own.length = i := by rw [← hown, byZ_len, List.length_take]; omega
    have HOn := Lib.hid hown
    have HOf : Hid (∀ y ∈ own, FineZ y) := Lib.hid (fun y hy => by
      rw [← hown] at hy
      exact HFn.out.1 y (List.mem_of_mem_take ((List.mergeSort_perm _ _).mem_iff.1 hy)))
    have HXf := Lib.hid (HFn.out.1 l[i] (List.getElem_mem hlt))
    obtain ⟨g0, o0, rfl, f0⟩ := p_at (HV.out.below (below_up HB1.out HBr.out)) hlt
    have hx0 : ∀ W', Below w3.heap.size w3 W' → AtP W' g0 o0 i l[i] := fun W' hb => by
      obtain ⟨g1, o1, e1, f1⟩ := p_at (HV.out.below (below_up (below_up HB1.out HBr.out) hb)) hlt
      cases e1
      exact f1
    have hsn : l.take (i + 1) = l.take i ++ [l[i]] := List.take_succ_eq_append_getElem hlt
    generalize l[i] = x at *
    have HX0 := Lib.hid hx0
    have HSn := Lib.hid hsn
    have HOwn : Hid (PRow w3 (.slice Ao own.length co) own) := Lib.hid (by rw [hol, ← hown]; exact HO.out)
    have HOl := Lib.hid hol
    have hol1 : own.length ≤ i := by omega
    have hol2 : i ≤ own.length := by omega
    clear hx0 hsn f0 hown hol
    go_upto_block 2 with (fail)
    go_cut [7] (fun v8 wx => ∃ k : Nat, v8 = .int .i64 k ∧ k ≤ own.length ∧ (0 < k → ∀ y, own[k - 1]? = some y → ltc cmZ x y = false) ∧ (k < own.length → ∀ y, own[k]? = some y → ltc cmZ x y = true) ∧ Below w3.heap.size w3 wx)
    case first =>
      go_wp2_with fail
      go_loopw [7] (fun v8 W => ∃ k : Nat, v8 = .int .i64 k ∧ k ≤ own.length ∧ (k < own.length → ∀ y, own[k]? = some y → ltc cmZ x y = true) ∧ Below w3.heap.size w3 W) (fun v8 _ => (intOf v8).toNat)
      case atStart => exact ⟨own.length, by rw [HOl.out], Nat.le_refl _, fun h => by omega, Below.refl _ _⟩
      case round =>
      obtain ⟨k, rfl, hk, hkl, hb⟩ := hrel
      have HKL := Lib.hid hkl; have HBk := Lib.hid hb
      clear hkl hb
      by_cases hk0 : 0 < k
      · have dk : decide ((k : Int) > 0) = true := decide_eq_true (by omega)
        have dkn : decide (0 < k) = true := decide_eq_true hk0
        obtain ⟨m, hm⟩ : ∃ m : Nat, k - 1 = m := ⟨_, rfl⟩
        have hw : IntKind.i64.wrap ((k : Int) - 1) = (m : Int) := by rw [IntWalk.i64_in _ (by omega)]; omega
        have hw2 : (k : Int) - 1 = (m : Int) := by omega
        have hm0 : IntKind.i64.wrap (m : Int) = (m : Int) := by rw [IntWalk.i64_in _ (by omega)]
        have hmo : m < own.length := by omega
        have bm : (m : Int) < own.length := by omega
        have bm2 : (m : Int) < i := by omega
        have hmk1 : m + 1 ≤ k := by omega
        have HD := Lib.hid (below_up HBk.out (below_drew1 (w := wr)))
        obtain ⟨g5, o5, rfl, f5⟩ := p_at (HOwn.out.below HD.out) hmo
        have f0 := HX0.out _ HD.out
        have HR5 : Hid (∀ W', Below w3.heap.size w3 W' → AtP W' g0 o0 i x ∧ AtP W' g5 o5 m own[m]) := Lib.hid (fun W' hb => by
          obtain ⟨g1, o1, e1, f1⟩ := p_at (HOwn.out.below hb) hmo
          cases e1
          exact ⟨HX0.out _ hb, f1⟩)
        have HY : Hid (own[m]? = some own[m]) := Lib.hid (List.getElem?_eq_getElem hmo)
        have HYf := Lib.hid (HOf.out own[m] (List.getElem_mem hmo))
        have HKm := Lib.hid hm
        generalize own[m] = y at *
        have HZl := Lib.hid (fun W => zl_ok x y HXf.out HYf.out W)
        clear hm
        go_upto_region 8 with (fail)
        refine beginS (S := fun W => AtP W g0 o0 i x ∧ AtP W g5 o5 m y) [] (by kernel_rfl) ⟨f0, f5⟩ (fun hHeld0 => ?_)
        generalize (World.drew wr) = W0 at *
        clear f0 f5
        refine takeF (i := 0) (v := ?_) rfl (by kernel_rfl) (fun _ _ _ h => h) (Or.inl ⟨by kernel_rfl, ?_⟩) (by assumption) ?_; rotate_left; (focus (intro w _; go_simp; (try with_reducible rfl); done)); (try simp only [Act.put, List.getElem_toArray, List.getElem_cons_succ, List.getElem_cons_zero, List.setIfInBounds_toArray, List.set_cons_zero, List.set_cons_succ])
        refine takeF (i := 1) (v := ?_) rfl (by kernel_rfl) (fun _ _ _ h => h) (Or.inl ⟨by kernel_rfl, ?_⟩) (by assumption) ?_; rotate_left; (focus (intro w _; go_simp; (try with_reducible rfl); done)); (try simp only [Act.put, List.getElem_toArray, List.getElem_cons_succ, List.getElem_cons_zero, List.setIfInBounds_toArray, List.set_cons_zero, List.set_cons_succ])
        refine takeF (i := 2) (v := ?_) rfl (by kernel_rfl) (fun _ _ _ h => h) (Or.inl ⟨by kernel_rfl, ?_⟩) (by assumption) ?_; rotate_left; (focus (intro w _; go_simp; (try with_reducible rfl); done)); (try simp only [Act.put, List.getElem_toArray, List.getElem_cons_succ, List.getElem_cons_zero, List.setIfInBounds_toArray, List.set_cons_zero, List.set_cons_succ])
        refine takeF (i := 3) (v := ?_) rfl (by kernel_rfl) (fun _ _ _ h => h) (Or.inl ⟨by kernel_rfl, ?_⟩) (by assumption) ?_; rotate_left; (focus (intro w _; go_simp; (try with_reducible rfl); done)); (try simp only [Act.put, List.getElem_toArray, List.getElem_cons_succ, List.getElem_cons_zero, List.setIfInBounds_toArray, List.set_cons_zero, List.set_cons_succ])
        refine takeF (i := 4) (v := ?_) rfl (by kernel_rfl) (fun _ _ _ h => h) (Or.inl ⟨by kernel_rfl, ?_⟩) (by assumption) ?_; rotate_left; (focus (intro w _; go_simp; (try with_reducible rfl); done)); (try simp only [Act.put, List.getElem_toArray, List.getElem_cons_succ, List.getElem_cons_zero, List.setIfInBounds_toArray, List.set_cons_zero, List.set_cons_succ])
        refine takeF (i := 5) (v := ?_) rfl (by kernel_rfl) (fun _ _ _ h => h) (Or.inl ⟨by kernel_rfl, ?_⟩) (by assumption) ?_; rotate_left; (focus (intro w _; go_simp; (try with_reducible rfl); done)); (try simp only [Act.put, List.getElem_toArray, List.getElem_cons_succ, List.getElem_cons_zero, List.setIfInBounds_toArray, List.set_cons_zero, List.set_cons_succ])
        refine takeH (i := 6) (v := ?_) rfl (by kernel_rfl) (fun _ _ _ h => h) (Or.inl ⟨by kernel_rfl, ?_⟩) (by assumption) ?_; rotate_left; (focus (intro w hSw; (try dsimp only at hSw); go_simp; (try with_reducible rfl); done)); (try simp only [Act.put, List.getElem_toArray, List.getElem_cons_succ, List.getElem_cons_zero, List.setIfInBounds_toArray, List.set_cons_zero, List.set_cons_succ])
        refine takeF (i := 7) (v := ?_) rfl (by kernel_rfl) (fun _ _ _ h => h) (Or.inl ⟨by kernel_rfl, ?_⟩) (by assumption) ?_; rotate_left; (focus (intro w _; go_simp; (try with_reducible rfl); done)); (try simp only [Act.put, List.getElem_toArray, List.getElem_cons_succ, List.getElem_cons_zero, List.setIfInBounds_toArray, List.set_cons_zero, List.set_cons_succ])
        refine takeF (i := 8) (v := ?_) rfl (by kernel_rfl) (fun _ _ _ h => h) (Or.inl ⟨by kernel_rfl, ?_⟩) (by assumption) ?_; rotate_left; (focus (intro w _; go_simp; (try with_reducible rfl); done)); (try simp only [Act.put, List.getElem_toArray, List.getElem_cons_succ, List.getElem_cons_zero, List.setIfInBounds_toArray, List.set_cons_zero, List.set_cons_succ])
        refine takeF (i := 9) (v := ?_) rfl (by kernel_rfl) (fun _ _ _ h => h) (Or.inl ⟨by kernel_rfl, ?_⟩) (by assumption) ?_; rotate_left; (focus (intro w _; go_simp; (try with_reducible rfl); done)); (try simp only [Act.put, List.getElem_toArray, List.getElem_cons_succ, List.getElem_cons_zero, List.setIfInBounds_toArray, List.set_cons_zero, List.set_cons_succ])
        refine takeF (i := 10) (v := ?_) rfl (by kernel_rfl) (fun _ _ _ h => h) (Or.inl ⟨by kernel_rfl, ?_⟩) (by assumption) ?_; rotate_left; (focus (intro w _; go_simp; (try with_reducible rfl); done)); (try simp only [Act.put, List.getElem_toArray, List.getElem_cons_succ, List.getElem_cons_zero, List.setIfInBounds_toArray, List.set_cons_zero, List.set_cons_succ])
        refine takeH (i := 11) (v := ?_) rfl (by kernel_rfl) (fun _ _ _ h => h) (Or.inl ⟨by kernel_rfl, ?_⟩) (by assumption) ?_; rotate_left; (focus (intro w hSw; (try dsimp only at hSw); go_simp; (try with_reducible rfl); done)); (try simp only [Act.put, List.getElem_toArray, List.getElem_cons_succ, List.getElem_cons_zero, List.setIfInBounds_toArray, List.set_cons_zero, List.set_cons_succ])
        clear hHeld0
        refine readyS (rs := [12]) (by kernel_rfl) (by simp) ?_
        refine ReadyS.consH rfl (fun K hK => ?_) ReadyS.nil
        (try simp only [List.getElem_toArray, List.getElem_cons_succ, List.getElem_cons_zero])
        go_simp
        (with_reducible refine (HZl.out _).mono ?_); rintro e W1 ⟨rfl, hb⟩
        have HD1 := Lib.hid (below_up HD.out hb)
        clear hb
        obtain ⟨b, hb⟩ : ∃ b, ltc cmZ x y = b := ⟨_, rfl⟩
        rw [hb]
        have HBb := Lib.hid hb
        clear hb
        refine hK.out _ _ (HR5.out _ HD1.out) (fun hHeld => ?_)
        clear hK K
        (try simp only [Act.put, List.getElem_toArray, List.getElem_cons_succ, List.getElem_cons_zero, List.setIfInBounds_toArray, List.set_cons_zero, List.set_cons_succ])
        refine takeF (i := 13) (v := ?_) rfl (by kernel_rfl) (fun _ _ _ h => h) (Or.inl ⟨by kernel_rfl, ?_⟩) (by assumption) ?_; rotate_left; (focus (intro w _; go_simp; (try with_reducible rfl); done)); (try simp only [Act.put, List.getElem_toArray, List.getElem_cons_succ, List.getElem_cons_zero, List.setIfInBounds_toArray, List.set_cons_zero, List.set_cons_succ])
        clear hHeld
        refine doneS (by kernel_rfl) ?_ _
        cases b with
        | true =>
          go_wp2
          exact ⟨⟨m, rfl, by omega, fun _ y' e => by rw [HY.out] at e; cases e; exact HBb.out, HD1.out⟩, by simp [intOf]; omega⟩
        | false =>
          go_wp2
          go_meet
          case rel => exact ⟨k, rfl, hk, fun _ y' e => by rw [HKm.out, HY.out] at e; cases e; exact HBb.out, HKL.out, HD1.out⟩
      · obtain rfl : k = 0 := by omega
        have HD := Lib.hid (below_up HBk.out (below_drew1 (w := wr)))
        go_upto_region 8 with (fail)
        refine beginS (S := fun W => True) [] (by kernel_rfl) trivial (fun hHeld0 => ?_)
        generalize (World.drew wr) = W0 at *
        refine takeF (i := 0) (v := ?_) rfl (by kernel_rfl) (fun _ _ _ h => h) (Or.inl ⟨by kernel_rfl, ?_⟩) (by assumption) ?_; rotate_left; (focus (intro w _; go_simp; (try with_reducible rfl); done)); (try simp only [Act.put, List.getElem_toArray, List.getElem_cons_succ, List.getElem_cons_zero, List.setIfInBounds_toArray, List.set_cons_zero, List.set_cons_succ])
        refine takeF (i := 1) (v := ?_) rfl (by kernel_rfl) (fun _ _ _ h => h) (Or.inl ⟨by kernel_rfl, ?_⟩) (by assumption) ?_; rotate_left; (focus (intro w _; go_simp; (try with_reducible rfl); done)); (try simp only [Act.put, List.getElem_toArray, List.getElem_cons_succ, List.getElem_cons_zero, List.setIfInBounds_toArray, List.set_cons_zero, List.set_cons_succ])
        refine takeF (i := 2) (v := ?_) rfl (by kernel_rfl) (fun _ _ _ h => h) (Or.inl ⟨by kernel_rfl, ?_⟩) (by assumption) ?_; rotate_left; (focus (intro w _; go_simp; (try with_reducible rfl); done)); (try simp only [Act.put, List.getElem_toArray, List.getElem_cons_succ, List.getElem_cons_zero, List.setIfInBounds_toArray, List.set_cons_zero, List.set_cons_succ])
        refine takeF (i := 3) (v := undef) rfl (by kernel_rfl) (fun _ _ _ h => h) (Or.inr ⟨by kernel_rfl, rfl⟩) (by assumption) ?_; (try simp only [Act.put, List.getElem_toArray, List.getElem_cons_succ, List.getElem_cons_zero, List.setIfInBounds_toArray, List.set_cons_zero, List.set_cons_succ])
        refine takeF (i := 4) (v := undef) rfl (by kernel_rfl) (fun _ _ _ h => h) (Or.inr ⟨by kernel_rfl, rfl⟩) (by assumption) ?_; (try simp only [Act.put, List.getElem_toArray, List.getElem_cons_succ, List.getElem_cons_zero, List.setIfInBounds_toArray, List.set_cons_zero, List.set_cons_succ])
        refine takeF (i := 5) (v := undef) rfl (by kernel_rfl) (fun _ _ _ h => h) (Or.inr ⟨by kernel_rfl, rfl⟩) (by assumption) ?_; (try simp only [Act.put, List.getElem_toArray, List.getElem_cons_succ, List.getElem_cons_zero, List.setIfInBounds_toArray, List.set_cons_zero, List.set_cons_succ])
        refine takeF (i := 6) (v := undef) rfl (by kernel_rfl) (fun _ _ _ h => h) (Or.inr ⟨by kernel_rfl, rfl⟩) (by assumption) ?_; (try simp only [Act.put, List.getElem_toArray, List.getElem_cons_succ, List.getElem_cons_zero, List.setIfInBounds_toArray, List.set_cons_zero, List.set_cons_succ])
        refine takeF (i := 7) (v := undef) rfl (by kernel_rfl) (fun _ _ _ h => h) (Or.inr ⟨by kernel_rfl, rfl⟩) (by assumption) ?_; (try simp only [Act.put, List.getElem_toArray, List.getElem_cons_succ, List.getElem_cons_zero, List.setIfInBounds_toArray, List.set_cons_zero, List.set_cons_succ])
        refine takeF (i := 8) (v := undef) rfl (by kernel_rfl) (fun _ _ _ h => h) (Or.inr ⟨by kernel_rfl, rfl⟩) (by assumption) ?_; (try simp only [Act.put, List.getElem_toArray, List.getElem_cons_succ, List.getElem_cons_zero, List.setIfInBounds_toArray, List.set_cons_zero, List.set_cons_succ])
        refine takeF (i := 9) (v := undef) rfl (by kernel_rfl) (fun _ _ _ h => h) (Or.inr ⟨by kernel_rfl, rfl⟩) (by assumption) ?_; (try simp only [Act.put, List.getElem_toArray, List.getElem_cons_succ, List.getElem_cons_zero, List.setIfInBounds_toArray, List.set_cons_zero, List.set_cons_succ])
        refine takeF (i := 10) (v := undef) rfl (by kernel_rfl) (fun _ _ _ h => h) (Or.inr ⟨by kernel_rfl, rfl⟩) (by assumption) ?_; (try simp only [Act.put, List.getElem_toArray, List.getElem_cons_succ, List.getElem_cons_zero, List.setIfInBounds_toArray, List.set_cons_zero, List.set_cons_succ])
        refine takeF (i := 11) (v := undef) rfl (by kernel_rfl) (fun _ _ _ h => h) (Or.inr ⟨by kernel_rfl, rfl⟩) (by assumption) ?_; (try simp only [Act.put, List.getElem_toArray, List.getElem_cons_succ, List.getElem_cons_zero, List.setIfInBounds_toArray, List.set_cons_zero, List.set_cons_succ])
        refine takeF (i := 12) (v := undef) rfl (by kernel_rfl) (fun _ _ _ h => h) (Or.inr ⟨by kernel_rfl, rfl⟩) (by assumption) ?_; (try simp only [Act.put, List.getElem_toArray, List.getElem_cons_succ, List.getElem_cons_zero, List.setIfInBounds_toArray, List.set_cons_zero, List.set_cons_succ])
        refine takeF (i := 13) (v := ?_) rfl (by kernel_rfl) (fun _ _ _ h => h) (Or.inl ⟨by kernel_rfl, ?_⟩) (by assumption) ?_; rotate_left; (focus (intro w _; go_simp; (try with_reducible rfl); done)); (try simp only [Act.put, List.getElem_toArray, List.getElem_cons_succ, List.getElem_cons_zero, List.setIfInBounds_toArray, List.set_cons_zero, List.set_cons_succ])
        clear hHeld0
        refine doneS (by kernel_rfl) ?_ _
        go_wp2
        go_meet
        case rel => exact ⟨0, rfl, hk, fun h => by omega, HKL.out, HD.out⟩
    case rest =>
    obtain ⟨k, rfl, hk, hkn, hkl, hb⟩ := hcut
    have HBc := Lib.hid hb
    have HIns : Hid (own.take k ++ x :: own.drop k = byZ (l.take (i + 1))) := Lib.hid (by
      rw [HSn.out]
      exact ins_sort swo_z (l.take i) own HOn.out x (by rw [List.length_take]; omega) hkn (fun h y e => hkl (by rw [List.length_take] at h; omega) y e))
    clear hkn hkl hb
    have bk : (k : Int) ≤ own.length := by omega
    have bkc : (k : Int) ≤ co := by omega
    have bki : (k : Int) ≤ i := by omega
    have bnc : (own.length : Int) ≤ co := by omega
    have bic : (i : Int) ≤ co := by omega
    have HFin2 : Hid (∀ (W' : World) (A : Option Addr) (n c : Nat), W'.ownsRow w3.heap.size 93 4 (.slice A n c) n ((own.take k).flatMap PtS.cells ++ [x].flatMap PtS.cells ++ (own.drop k).flatMap PtS.cells) → Below w3.heap.size w3 W' → n = i + 1 ∧ i + 1 ≤ c ∧ PRow W' (.slice A (i + 1) c) (byZ (l.take (i + 1))) ∧ Below w1.heap.size w1 W') := Lib.hid (fun W' A n c h hb => by
      have e : (own.take k).flatMap PtS.cells ++ [x].flatMap PtS.cells ++ (own.drop k).flatMap PtS.cells = (byZ (l.take (i + 1))).flatMap PtS.cells := by rw [← HIns.out]; simp [List.flatMap_append, List.flatMap_cons]
      rw [e] at h
      have hl2 := own_len h
      rw [flat_len PtS.cells_len] at hl2
      have hn2 := Nat.eq_of_mul_eq_mul_right (by decide) hl2
      rw [byZ_len, List.length_take] at hn2
      have hn3 : n = i + 1 := by omega
      subst hn3
      obtain ⟨A', c', e', h1, _⟩ := own_rd h
      injection e' with e1 e2 e3
      exact ⟨rfl, by omega, srd_own PtS.cells_len (by decide) h, below_up HBr.out hb⟩)
    go_upto_region 10 with (fail)
    have HB3 := Lib.hid (below_up HBc.out (below_drew1 (w := wc)))
    have HQ : Hid (∀ W' : World, Below w3.heap.size w3 W' → AtP W' g0 o0 i x ∧ Below w3.heap.size w3 W') := Lib.hid (fun W' hb => ⟨HX0.out W' hb, hb⟩)
    have HRt : Hid (∀ W' : World, Below w3.heap.size w3 W' → Rd W' Ao ((own.take k).flatMap PtS.cells) ∧ Rd W' (if co = k then Ao else Option.map (fun x => x.add (k * 4)) Ao) ((own.drop k).flatMap PtS.cells)) := Lib.hid (fun W' hb => prow_parts (HOwn.out.below hb) hk)
    have HFin : Hid (∀ (W' : World) (v : Value) (n : Nat), W'.ownsRow w3.heap.size 93 4 v n ((own.take k).flatMap PtS.cells ++ [x].flatMap PtS.cells ++ (own.drop k).flatMap PtS.cells) → W'.ownsRow w3.heap.size 93 4 v (own.take k ++ (x :: own.drop k)).length ((own.take k ++ (x :: own.drop k)).flatMap PtS.cells)) := Lib.hid (fun W' v n h => by
      have hl := own_len h
      have e : (own.take k).flatMap PtS.cells ++ [x].flatMap PtS.cells ++ (own.drop k).flatMap PtS.cells = (own.take k ++ (x :: own.drop k)).flatMap PtS.cells := by simp [List.flatMap_append, List.flatMap_cons]
      rw [e] at h hl
      rw [flat_len PtS.cells_len] at hl
      rw [Nat.eq_of_mul_eq_mul_right (by decide) hl]
      exact h)
    refine beginS (S := fun W' => AtP W' g0 o0 i x ∧ Below w3.heap.size w3 W') [] (by kernel_rfl) (HQ.out _ HB3.out) (fun hHeld0 => ?_)
    have Hb := HB3
    clear HB3
    generalize (World.drew wc) = Wc at *
    refine takeF (i := 1) (v := ?_) rfl (by kernel_rfl) (fun _ _ _ h => h) (Or.inl ⟨by kernel_rfl, ?_⟩) (by assumption) ?_; rotate_left; (focus (intro w _; go_simp; (try with_reducible rfl); done)); (try simp only [Act.put, List.getElem_toArray, List.getElem_cons_succ, List.getElem_cons_zero, List.setIfInBounds_toArray, List.set_cons_zero, List.set_cons_succ])
    refine takeF (i := 2) (v := ?_) rfl (by kernel_rfl) (fun _ _ _ h => h) (Or.inl ⟨by kernel_rfl, ?_⟩) (by assumption) ?_; rotate_left; (focus (intro w _; go_simp; (try with_reducible rfl); done)); (try simp only [Act.put, List.getElem_toArray, List.getElem_cons_succ, List.getElem_cons_zero, List.setIfInBounds_toArray, List.set_cons_zero, List.set_cons_succ])
    refine takeF (i := 3) (v := ?_) rfl (by kernel_rfl) (fun _ _ _ h => h) (Or.inl ⟨by kernel_rfl, ?_⟩) (by assumption) ?_; rotate_left; (focus (intro w _; go_simp; (try with_reducible rfl); done)); (try simp only [Act.put, List.getElem_toArray, List.getElem_cons_succ, List.getElem_cons_zero, List.setIfInBounds_toArray, List.set_cons_zero, List.set_cons_succ])
    refine takeF (i := 5) (v := ?_) rfl (by kernel_rfl) (fun _ _ _ h => h) (Or.inl ⟨by kernel_rfl, ?_⟩) (by assumption) ?_; rotate_left; (focus (intro w _; go_simp; (try with_reducible rfl); done)); (try simp only [Act.put, List.getElem_toArray, List.getElem_cons_succ, List.getElem_cons_zero, List.setIfInBounds_toArray, List.set_cons_zero, List.set_cons_succ])
    refine takeF (i := 6) (v := ?_) rfl (by kernel_rfl) (fun _ _ _ h => h) (Or.inl ⟨by kernel_rfl, ?_⟩) (by assumption) ?_; rotate_left; (focus (intro w _; go_simp; (try with_reducible rfl); done)); (try simp only [Act.put, List.getElem_toArray, List.getElem_cons_succ, List.getElem_cons_zero, List.setIfInBounds_toArray, List.set_cons_zero, List.set_cons_succ])
    refine takeF (i := 7) (v := ?_) rfl (by kernel_rfl) (fun _ _ _ h => h) (Or.inl ⟨by kernel_rfl, ?_⟩) (by assumption) ?_; rotate_left; (focus (intro w _; go_simp; (try with_reducible rfl); done)); (try simp only [Act.put, List.getElem_toArray, List.getElem_cons_succ, List.getElem_cons_zero, List.setIfInBounds_toArray, List.set_cons_zero, List.set_cons_succ])
    refine takeH (i := 8) (v := ?_) rfl (by kernel_rfl) (fun _ _ _ h => h) (Or.inl ⟨by kernel_rfl, ?_⟩) (by assumption) ?_; rotate_left; (focus (intro w hSw; (try dsimp only at hSw); go_simp; (try with_reducible rfl); done)); (try simp only [Act.put, List.getElem_toArray, List.getElem_cons_succ, List.getElem_cons_zero, List.setIfInBounds_toArray, List.set_cons_zero, List.set_cons_succ])
    refine takeF (i := 11) (v := ?_) rfl (by kernel_rfl) (fun _ _ _ h => h) (Or.inl ⟨by kernel_rfl, ?_⟩) (by assumption) ?_; rotate_left; (focus (intro w _; go_simp; (try with_reducible rfl); done)); (try simp only [Act.put, List.getElem_toArray, List.getElem_cons_succ, List.getElem_cons_zero, List.setIfInBounds_toArray, List.set_cons_zero, List.set_cons_succ])
    refine takeF (i := 12) (v := ?_) rfl (by kernel_rfl) (fun _ _ _ h => h) (Or.inl ⟨by kernel_rfl, ?_⟩) (by assumption) ?_; rotate_left; (focus (intro w _; go_simp; (try with_reducible rfl); done)); (try simp only [Act.put, List.getElem_toArray, List.getElem_cons_succ, List.getElem_cons_zero, List.setIfInBounds_toArray, List.set_cons_zero, List.set_cons_succ])
    refine takeF (i := 13) (v := ?_) rfl (by kernel_rfl) (fun _ _ _ h => h) (Or.inl ⟨by kernel_rfl, ?_⟩) (by assumption) ?_; rotate_left; (focus (intro w _; go_simp; (try with_reducible rfl); done)); (try simp only [Act.put, List.getElem_toArray, List.getElem_cons_succ, List.getElem_cons_zero, List.setIfInBounds_toArray, List.set_cons_zero, List.set_cons_succ])
    obtain ⟨A2, hA2⟩ : ∃ A2, (if co = k then Ao else Option.map (fun x => x.add (k * 4)) Ao) = A2 := ⟨_, rfl⟩
    rw [hA2] at HRt ⊢
    clear hA2
    refine readyS (rs := [0, 9]) (by kernel_rfl) (by simp) ?_
    refine ReadyS.consH rfl (fun K hK => ?_) (ReadyS.consH rfl (fun K hK => ?_) ReadyS.nil)
    (try simp only [List.getElem_toArray, List.getElem_cons_succ, List.getElem_cons_zero])
    · go_simp
      have H0' := Lib.hid (own_lower (own_zero Wc 93 4) Hb.out.size)
      have Hb' := Lib.hid (below_alloc Hb.out (.cells #[] 93))
      clear hHeld0
      refine hK.out _ _ (HQ.out _ Hb'.out) (fun hHeld0 => ?_)
      clear hK K
      clear Hb
      have H0 := H0'; have Hb := Hb'; clear H0' Hb'
      generalize (World.alloc Wc _) = Wd at *
      obtain ⟨Wc, rfl⟩ : ∃ W, W = Wd := ⟨_, rfl⟩
      (try simp only [Act.put, List.getElem_toArray, List.getElem_cons_succ, List.getElem_cons_zero, List.setIfInBounds_toArray, List.set_cons_zero, List.set_cons_succ])
      refine readyS (rs := [4, 9]) (by kernel_rfl) (by simp) ?_
      refine ReadyS.consH rfl (fun K hK => ?_) (ReadyS.consH rfl (fun K hK => ?_) ReadyS.nil)
      (try simp only [List.getElem_toArray, List.getElem_cons_succ, List.getElem_cons_zero])
      · rw [if_pos (by kernel_rfl)]
        refine wp_app _ _ 90 (by rfl) w3.heap.size 93 (.agg #[.int .i64 0, .int .u32 0, .int .u32 0, .string ⟨#[]⟩]) 4 32 Try.underlying90 info_pt4 rfl (by decide) (by decide) _ 0 [] (by rfl) Ao k co ((own.take k).flatMap PtS.cells) (by rfl) H0.out (by rw [flat_len PtS.cells_len, List.length_take, Nat.min_eq_left hk]) (HRt.out _ Hb.out).1 (flat_one PtS.cells_one _) (by omega) Hb.out.size ?_
        intro A4 c4 Wd hown hgrow hat
        rw [Nat.zero_add] at hown hat ⊢
        rw [List.nil_append] at hown
        have Hb' := Lib.hid (below_grown Hb.out hgrow (fun k e => own_base H0.out k e))
        have H4 := Lib.hid hown
        clear hown hgrow hat
        clear hHeld0
        refine hK.out _ _ (HQ.out _ Hb'.out) (fun hHeld0 => ?_)
        clear hK K
        clear Hb H0
        have Hb := Hb'; clear Hb'
        obtain ⟨Wc, rfl⟩ : ∃ W, W = Wd := ⟨_, rfl⟩
        (try simp only [Act.put, List.getElem_toArray, List.getElem_cons_succ, List.getElem_cons_zero, List.setIfInBounds_toArray, List.set_cons_zero, List.set_cons_succ])
        refine readyS (rs := [9]) (by kernel_rfl) (by simp) ?_
        refine ReadyS.consH rfl (fun K hK => ?_) ReadyS.nil
        (try simp only [List.getElem_toArray, List.getElem_cons_succ, List.getElem_cons_zero])
        go_simp
        have H9' := Lib.hid (rd_new Wc #[.int .i64 x.id, .int .u32 (x.x : Nat), .int .u32 (x.y : Nat), .string x.d] 93 ([x].flatMap PtS.cells) rfl)
        have Hb' := Lib.hid (below_alloc Hb.out (.cells #[.int .i64 x.id, .int .u32 (x.x : Nat), .int .u32 (x.y : Nat), .string x.d] 93))
        have H4' := Lib.hid (own_below H4.out (below_alloc1 Wc (.cells #[.int .i64 x.id, .int .u32 (x.x : Nat), .int .u32 (x.y : Nat), .string x.d] 93)))
        clear hHeld0
        refine hK.out _ _ (HQ.out _ Hb'.out) (fun hHeld0 => ?_)
        clear hK K
        clear Hb H4
        have H9 := H9'; have Hb := Hb'; clear H9' Hb'
        have H4 := H4'; clear H4'
        generalize (World.alloc Wc _) = Wd at *
        obtain ⟨Wc, rfl⟩ : ∃ W, W = Wd := ⟨_, rfl⟩
        (try simp only [Act.put, List.getElem_toArray, List.getElem_cons_succ, List.getElem_cons_zero, List.setIfInBounds_toArray, List.set_cons_zero, List.set_cons_succ])
        refine readyS (rs := [10]) (by kernel_rfl) (by simp) ?_
        refine ReadyS.consH rfl (fun K hK => ?_) ReadyS.nil
        (try simp only [List.getElem_toArray, List.getElem_cons_succ, List.getElem_cons_zero])
        rw [if_pos (by kernel_rfl)]
        refine wp_app _ _ 90 (by rfl) w3.heap.size 93 (.agg #[.int .i64 0, .int .u32 0, .int .u32 0, .string ⟨#[]⟩]) 4 32 Try.underlying90 info_pt4 rfl (by decide) (by decide) (.slice A4 k c4) k ((own.take k).flatMap PtS.cells) (by rfl) _ 1 1 ([x].flatMap PtS.cells) (by rfl) H4.out rfl H9.out (flat_one PtS.cells_one _) (by omega) Hb.out.size ?_
        intro A10 c10 Wd hown hgrow hat
        have Hb' := Lib.hid (below_grown Hb.out hgrow (fun k e => own_base H4.out k e))
        have H10 := Lib.hid hown
        clear hown hgrow hat
        clear hHeld0
        refine hK.out _ _ (HQ.out _ Hb'.out) (fun hHeld0 => ?_)
        clear hK K
        clear Hb H4 H9
        have Hb := Hb'; clear Hb'
        obtain ⟨Wc, rfl⟩ : ∃ W, W = Wd := ⟨_, rfl⟩
        (try simp only [Act.put, List.getElem_toArray, List.getElem_cons_succ, List.getElem_cons_zero, List.setIfInBounds_toArray, List.set_cons_zero, List.set_cons_succ])
        refine readyS (rs := [14]) (by kernel_rfl) (by simp) ?_
        refine ReadyS.consH rfl (fun K hK => ?_) ReadyS.nil
        (try simp only [List.getElem_toArray, List.getElem_cons_succ, List.getElem_cons_zero])
        rw [if_pos (by kernel_rfl)]
        refine wp_app _ _ 90 (by rfl) w3.heap.size 93 (.agg #[.int .i64 0, .int .u32 0, .int .u32 0, .string ⟨#[]⟩]) 4 32 Try.underlying90 info_pt4 rfl (by decide) (by decide) (.slice A10 (k + 1) c10) (k + 1) ((own.take k).flatMap PtS.cells ++ [x].flatMap PtS.cells) (by rfl) A2 (i - k) (co - k) ((own.drop k).flatMap PtS.cells) (by rfl) H10.out (by rw [flat_len PtS.cells_len, List.length_drop, HOl.out]) (HRt.out _ Hb.out).2 (flat_one PtS.cells_one _) (by omega) Hb.out.size ?_
        intro A14 c14 Wd hown hgrow hat
        have Hb' := Lib.hid (below_grown Hb.out hgrow (fun k e => own_base H10.out k e))
        have H14 := Lib.hid hown
        clear hown hgrow hat
        clear hHeld0
        refine hK.out _ _ (HQ.out _ Hb'.out) (fun hHeld0 => ?_)
        clear hK K
        clear Hb H10
        have Hb := Hb'; clear Hb'
        obtain ⟨Wc, rfl⟩ : ∃ W, W = Wd := ⟨_, rfl⟩
        (try simp only [Act.put, List.getElem_toArray, List.getElem_cons_succ, List.getElem_cons_zero, List.setIfInBounds_toArray, List.set_cons_zero, List.set_cons_succ])
        refine takeF (i := 15) (v := ?_) rfl (by kernel_rfl) (fun _ _ _ h => h) (Or.inl ⟨by kernel_rfl, ?_⟩) (by assumption) ?_; rotate_left; (focus (intro w _; go_simp; (try with_reducible rfl); done)); (try simp only [Act.put, List.getElem_toArray, List.getElem_cons_succ, List.getElem_cons_zero, List.setIfInBounds_toArray, List.set_cons_zero, List.set_cons_succ])
        have HE := Lib.hid (HFin2.out _ _ _ _ H14.out Hb.out)
        clear hHeld0
        refine doneS (by kernel_rfl) ?_ _
        go_wp2
        exact ⟨⟨i + 1, A14, c14, by go_num, by omega, congrArg (fun n => Value.slice A14 n c14) (by omega), HE.out.2.1, HE.out.2.2.1, HE.out.2.2.2⟩, by simp [intOf]; omega⟩
      · go_simp
        have H9' := Lib.hid (rd_new Wc #[.int .i64 x.id, .int .u32 (x.x : Nat), .int .u32 (x.y : Nat), .string x.d] 93 ([x].flatMap PtS.cells) rfl)
        have Hb' := Lib.hid (below_alloc Hb.out (.cells #[.int .i64 x.id, .int .u32 (x.x : Nat), .int .u32 (x.y : Nat), .string x.d] 93))
        have Hne := Lib.hid (own_lt H0.out _ rfl)
        have H0' := Lib.hid (own_below H0.out (below_alloc1 Wc (.cells #[.int .i64 x.id, .int .u32 (x.x : Nat), .int .u32 (x.y : Nat), .string x.d] 93)))
        clear hHeld0
        refine hK.out _ _ (HQ.out _ Hb'.out) (fun hHeld0 => ?_)
        clear hK K
        clear Hb H0
        have H9 := H9'; have Hb := Hb'; clear H9' Hb'
        have H0 := H0'; clear H0'
        generalize (World.alloc Wc _) = Wd at *
        obtain ⟨Wc, rfl⟩ : ∃ W, W = Wd := ⟨_, rfl⟩
        (try simp only [Act.put, List.getElem_toArray, List.getElem_cons_succ, List.getElem_cons_zero, List.setIfInBounds_toArray, List.set_cons_zero, List.set_cons_succ])
        refine readyS (rs := [4]) (by kernel_rfl) (by simp) ?_
        refine ReadyS.consH rfl (fun K hK => ?_) ReadyS.nil
        (try simp only [List.getElem_toArray, List.getElem_cons_succ, List.getElem_cons_zero])
        rw [if_pos (by kernel_rfl)]
        refine wp_app _ _ 90 (by rfl) w3.heap.size 93 (.agg #[.int .i64 0, .int .u32 0, .int .u32 0, .string ⟨#[]⟩]) 4 32 Try.underlying90 info_pt4 rfl (by decide) (by decide) _ 0 [] (by rfl) Ao k co ((own.take k).flatMap PtS.cells) (by rfl) H0.out (by rw [flat_len PtS.cells_len, List.length_take, Nat.min_eq_left hk]) (HRt.out _ Hb.out).1 (flat_one PtS.cells_one _) (by omega) Hb.out.size ?_
        intro A4 c4 Wd hown hgrow hat
        rw [Nat.zero_add] at hown hat ⊢
        rw [List.nil_append] at hown
        have Hb' := Lib.hid (below_grown Hb.out hgrow (fun k e => own_base H0.out k e))
        have H4 := Lib.hid hown
        have H9' := Lib.hid (rd_grown H9.out hgrow (fun ad e hk => by cases e; have h1 := Option.some.inj hk; have h2 := Hne.out; (try dsimp only at h1 h2); omega))
        clear hown hgrow hat
        clear hHeld0
        refine hK.out _ _ (HQ.out _ Hb'.out) (fun hHeld0 => ?_)
        clear hK K
        clear Hb H0 H9 Hne
        have Hb := Hb'; clear Hb'
        have H9 := H9'; clear H9'
        obtain ⟨Wc, rfl⟩ : ∃ W, W = Wd := ⟨_, rfl⟩
        (try simp only [Act.put, List.getElem_toArray, List.getElem_cons_succ, List.getElem_cons_zero, List.setIfInBounds_toArray, List.set_cons_zero, List.set_cons_succ])
        refine readyS (rs := [10]) (by kernel_rfl) (by simp) ?_
        refine ReadyS.consH rfl (fun K hK => ?_) ReadyS.nil
        (try simp only [List.getElem_toArray, List.getElem_cons_succ, List.getElem_cons_zero])
        rw [if_pos (by kernel_rfl)]
        refine wp_app _ _ 90 (by rfl) w3.heap.size 93 (.agg #[.int .i64 0, .int .u32 0, .int .u32 0, .string ⟨#[]⟩]) 4 32 Try.underlying90 info_pt4 rfl (by decide) (by decide) (.slice A4 k c4) k ((own.take k).flatMap PtS.cells) (by rfl) _ 1 1 ([x].flatMap PtS.cells) (by rfl) H4.out rfl H9.out (flat_one PtS.cells_one _) (by omega) Hb.out.size ?_
        intro A10 c10 Wd hown hgrow hat
        have Hb' := Lib.hid (below_grown Hb.out hgrow (fun k e => own_base H4.out k e))
        have H10 := Lib.hid hown
        clear hown hgrow hat
        clear hHeld0
        refine hK.out _ _ (HQ.out _ Hb'.out) (fun hHeld0 => ?_)
        clear hK K
        clear Hb H4 H9
        have Hb := Hb'; clear Hb'
        obtain ⟨Wc, rfl⟩ : ∃ W, W = Wd := ⟨_, rfl⟩
        (try simp only [Act.put, List.getElem_toArray, List.getElem_cons_succ, List.getElem_cons_zero, List.setIfInBounds_toArray, List.set_cons_zero, List.set_cons_succ])
        refine readyS (rs := [14]) (by kernel_rfl) (by simp) ?_
        refine ReadyS.consH rfl (fun K hK => ?_) ReadyS.nil
        (try simp only [List.getElem_toArray, List.getElem_cons_succ, List.getElem_cons_zero])
        rw [if_pos (by kernel_rfl)]
        refine wp_app _ _ 90 (by rfl) w3.heap.size 93 (.agg #[.int .i64 0, .int .u32 0, .int .u32 0, .string ⟨#[]⟩]) 4 32 Try.underlying90 info_pt4 rfl (by decide) (by decide) (.slice A10 (k + 1) c10) (k + 1) ((own.take k).flatMap PtS.cells ++ [x].flatMap PtS.cells) (by rfl) A2 (i - k) (co - k) ((own.drop k).flatMap PtS.cells) (by rfl) H10.out (by rw [flat_len PtS.cells_len, List.length_drop, HOl.out]) (HRt.out _ Hb.out).2 (flat_one PtS.cells_one _) (by omega) Hb.out.size ?_
        intro A14 c14 Wd hown hgrow hat
        have Hb' := Lib.hid (below_grown Hb.out hgrow (fun k e => own_base H10.out k e))
        have H14 := Lib.hid hown
        clear hown hgrow hat
        clear hHeld0
        refine hK.out _ _ (HQ.out _ Hb'.out) (fun hHeld0 => ?_)
        clear hK K
        clear Hb H10
        have Hb := Hb'; clear Hb'
        obtain ⟨Wc, rfl⟩ : ∃ W, W = Wd := ⟨_, rfl⟩
        (try simp only [Act.put, List.getElem_toArray, List.getElem_cons_succ, List.getElem_cons_zero, List.setIfInBounds_toArray, List.set_cons_zero, List.set_cons_succ])
        refine takeF (i := 15) (v := ?_) rfl (by kernel_rfl) (fun _ _ _ h => h) (Or.inl ⟨by kernel_rfl, ?_⟩) (by assumption) ?_; rotate_left; (focus (intro w _; go_simp; (try with_reducible rfl); done)); (try simp only [Act.put, List.getElem_toArray, List.getElem_cons_succ, List.getElem_cons_zero, List.setIfInBounds_toArray, List.set_cons_zero, List.set_cons_succ])
        have HE := Lib.hid (HFin2.out _ _ _ _ H14.out Hb.out)
        clear hHeld0
        refine doneS (by kernel_rfl) ?_ _
        go_wp2
        exact ⟨⟨i + 1, A14, c14, by go_num, by omega, congrArg (fun n => Value.slice A14 n c14) (by omega), HE.out.2.1, HE.out.2.2.1, HE.out.2.2.2⟩, by simp [intOf]; omega⟩
    · go_simp
      have H9' := Lib.hid (rd_new Wc #[.int .i64 x.id, .int .u32 (x.x : Nat), .int .u32 (x.y : Nat), .string x.d] 93 ([x].flatMap PtS.cells) rfl)
      have Hb' := Lib.hid (below_alloc Hb.out (.cells #[.int .i64 x.id, .int .u32 (x.x : Nat), .int .u32 (x.y : Nat), .string x.d] 93))
      clear hHeld0
      refine hK.out _ _ (HQ.out _ Hb'.out) (fun hHeld0 => ?_)
      clear hK K
      clear Hb
      have H9 := H9'; have Hb := Hb'; clear H9' Hb'
      generalize (World.alloc Wc _) = Wd at *
      obtain ⟨Wc, rfl⟩ : ∃ W, W = Wd := ⟨_, rfl⟩
      (try simp only [Act.put, List.getElem_toArray, List.getElem_cons_succ, List.getElem_cons_zero, List.setIfInBounds_toArray, List.set_cons_zero, List.set_cons_succ])
      refine readyS (rs := [0]) (by kernel_rfl) (by simp) ?_
      refine ReadyS.consH rfl (fun K hK => ?_) ReadyS.nil
      (try simp only [List.getElem_toArray, List.getElem_cons_succ, List.getElem_cons_zero])
      go_simp
      have H0' := Lib.hid (own_lower (own_zero Wc 93 4) Hb.out.size)
      have Hb' := Lib.hid (below_alloc Hb.out (.cells #[] 93))
      have Hne := Lib.hid (H9.out.lt (by simp [PtS.cells]))
      have H9' := Lib.hid (H9.out.below (below_alloc1 Wc (.cells #[] 93)))
      clear hHeld0
      refine hK.out _ _ (HQ.out _ Hb'.out) (fun hHeld0 => ?_)
      clear hK K
      clear Hb H9
      have H0 := H0'; have Hb := Hb'; clear H0' Hb'
      have H9 := H9'; clear H9'
      generalize (World.alloc Wc _) = Wd at *
      obtain ⟨Wc, rfl⟩ : ∃ W, W = Wd := ⟨_, rfl⟩
      (try simp only [Act.put, List.getElem_toArray, List.getElem_cons_succ, List.getElem_cons_zero, List.setIfInBounds_toArray, List.set_cons_zero, List.set_cons_succ])
      refine readyS (rs := [4]) (by kernel_rfl) (by simp) ?_
      refine ReadyS.consH rfl (fun K hK => ?_) ReadyS.nil
      (try simp only [List.getElem_toArray, List.getElem_cons_succ, List.getElem_cons_zero])
      rw [if_pos (by kernel_rfl)]
      refine wp_app _ _ 90 (by rfl) w3.heap.size 93 (.agg #[.int .i64 0, .int .u32 0, .int .u32 0, .string ⟨#[]⟩]) 4 32 Try.underlying90 info_pt4 rfl (by decide) (by decide) _ 0 [] (by rfl) Ao k co ((own.take k).flatMap PtS.cells) (by rfl) H0.out (by rw [flat_len PtS.cells_len, List.length_take, Nat.min_eq_left hk]) (HRt.out _ Hb.out).1 (flat_one PtS.cells_one _) (by omega) Hb.out.size ?_
      intro A4 c4 Wd hown hgrow hat
      rw [Nat.zero_add] at hown hat ⊢
      rw [List.nil_append] at hown
      have Hb' := Lib.hid (below_grown Hb.out hgrow (fun k e => own_base H0.out k e))
      have H4 := Lib.hid hown
      have H9' := Lib.hid (rd_grown H9.out hgrow (fun ad e hk => by cases e; have h1 := Option.some.inj hk; have h2 := Hne.out; (try dsimp only at h1 h2); omega))
      clear hown hgrow hat
      clear hHeld0
      refine hK.out _ _ (HQ.out _ Hb'.out) (fun hHeld0 => ?_)
      clear hK K
      clear Hb H0 H9 Hne
      have Hb := Hb'; clear Hb'
      have H9 := H9'; clear H9'
      obtain ⟨Wc, rfl⟩ : ∃ W, W = Wd := ⟨_, rfl⟩
      (try simp only [Act.put, List.getElem_toArray, List.getElem_cons_succ, List.getElem_cons_zero, List.setIfInBounds_toArray, List.set_cons_zero, List.set_cons_succ])
      refine readyS (rs := [10]) (by kernel_rfl) (by simp) ?_
      refine ReadyS.consH rfl (fun K hK => ?_) ReadyS.nil
      (try simp only [List.getElem_toArray, List.getElem_cons_succ, List.getElem_cons_zero])
      rw [if_pos (by kernel_rfl)]
      refine wp_app _ _ 90 (by rfl) w3.heap.size 93 (.agg #[.int .i64 0, .int .u32 0, .int .u32 0, .string ⟨#[]⟩]) 4 32 Try.underlying90 info_pt4 rfl (by decide) (by decide) (.slice A4 k c4) k ((own.take k).flatMap PtS.cells) (by rfl) _ 1 1 ([x].flatMap PtS.cells) (by rfl) H4.out rfl H9.out (flat_one PtS.cells_one _) (by omega) Hb.out.size ?_
      intro A10 c10 Wd hown hgrow hat
      have Hb' := Lib.hid (below_grown Hb.out hgrow (fun k e => own_base H4.out k e))
      have H10 := Lib.hid hown
      clear hown hgrow hat
      clear hHeld0
      refine hK.out _ _ (HQ.out _ Hb'.out) (fun hHeld0 => ?_)
      clear hK K
      clear Hb H4 H9
      have Hb := Hb'; clear Hb'
      obtain ⟨Wc, rfl⟩ : ∃ W, W = Wd := ⟨_, rfl⟩
      (try simp only [Act.put, List.getElem_toArray, List.getElem_cons_succ, List.getElem_cons_zero, List.setIfInBounds_toArray, List.set_cons_zero, List.set_cons_succ])
      refine readyS (rs := [14]) (by kernel_rfl) (by simp) ?_
      refine ReadyS.consH rfl (fun K hK => ?_) ReadyS.nil
      (try simp only [List.getElem_toArray, List.getElem_cons_succ, List.getElem_cons_zero])
      rw [if_pos (by kernel_rfl)]
      refine wp_app _ _ 90 (by rfl) w3.heap.size 93 (.agg #[.int .i64 0, .int .u32 0, .int .u32 0, .string ⟨#[]⟩]) 4 32 Try.underlying90 info_pt4 rfl (by decide) (by decide) (.slice A10 (k + 1) c10) (k + 1) ((own.take k).flatMap PtS.cells ++ [x].flatMap PtS.cells) (by rfl) A2 (i - k) (co - k) ((own.drop k).flatMap PtS.cells) (by rfl) H10.out (by rw [flat_len PtS.cells_len, List.length_drop, HOl.out]) (HRt.out _ Hb.out).2 (flat_one PtS.cells_one _) (by omega) Hb.out.size ?_
      intro A14 c14 Wd hown hgrow hat
      have Hb' := Lib.hid (below_grown Hb.out hgrow (fun k e => own_base H10.out k e))
      have H14 := Lib.hid hown
      clear hown hgrow hat
      clear hHeld0
      refine hK.out _ _ (HQ.out _ Hb'.out) (fun hHeld0 => ?_)
      clear hK K
      clear Hb H10
      have Hb := Hb'; clear Hb'
      obtain ⟨Wc, rfl⟩ : ∃ W, W = Wd := ⟨_, rfl⟩
      (try simp only [Act.put, List.getElem_toArray, List.getElem_cons_succ, List.getElem_cons_zero, List.setIfInBounds_toArray, List.set_cons_zero, List.set_cons_succ])
      refine takeF (i := 15) (v := ?_) rfl (by kernel_rfl) (fun _ _ _ h => h) (Or.inl ⟨by kernel_rfl, ?_⟩) (by assumption) ?_; rotate_left; (focus (intro w _; go_simp; (try with_reducible rfl); done)); (try simp only [Act.put, List.getElem_toArray, List.getElem_cons_succ, List.getElem_cons_zero, List.setIfInBounds_toArray, List.set_cons_zero, List.set_cons_succ])
      have HE := Lib.hid (HFin2.out _ _ _ _ H14.out Hb.out)
      clear hHeld0
      refine doneS (by kernel_rfl) ?_ _
      go_wp2
      exact ⟨⟨i + 1, A14, c14, by go_num, by omega, congrArg (fun n => Value.slice A14 n c14) (by omega), HE.out.2.1, HE.out.2.2.1, HE.out.2.2.2⟩, by simp [intOf]; omega⟩
  · obtain rfl : i = l.length := by omega
    have d : decide (l.length < l.length) = false := decide_eq_false (by omega)
    have di : decide ((l.length : Int) < l.length) = false := decide_eq_false (by omega)
    have HW : Hid (PRow w3 (.slice Ao l.length co) (byZ l)) := Lib.hid (by have := HO.out; rw [List.take_length] at this; exact this)
    go_wp2_with fail
    go_loopw [8] (fun vi W' => ∃ j : Nat, vi = .int .i64 j ∧ j ≤ l.length ∧ Below w3.heap.size w3 W') (fun vi _ => l.length - (intOf vi).toNat)
    case atStart => exact ⟨0, rfl, Nat.zero_le _, Below.refl _ _⟩
    case round =>
    obtain ⟨j, rfl, hj, hb⟩ := hrel
    have HBj := Lib.hid hb
    clear hb
    by_cases hjl : j < l.length ∧ j < lm.length
    · obtain ⟨hjl, hjm⟩ := hjl
      have d2 : decide (j < l.length) = true := decide_eq_true hjl
      have d2i : decide ((j : Int) < l.length) = true := decide_eq_true (by omega)
      have d3 : decide (j < lm.length) = true := decide_eq_true hjm
      have d3i : decide ((j : Int) < lm.length) = true := decide_eq_true (by omega)
      have bj : (j : Int) < l.length := by omega
      have bjm : (j : Int) < lm.length := by omega
      have hj0 : IntKind.i64.wrap (j : Int) = (j : Int) := by rw [IntWalk.i64_in _ (by omega)]
      have hd := below_up (below_up HB1.out (below_up HBr.out HBj.out)) (below_drew1 (w := wr))
      have HD := Lib.hid (below_up HBj.out (below_drew1 (w := wr)))
      have HRj := fun W' (hb : Below wr.drew.heap.size wr.drew W') => p_at (HV.out.below (below_up hd hb)) hjl
      have HRm := fun W' (hb : Below wr.drew.heap.size wr.drew W') => p_at (HM.out.below (below_up hd hb)) hjm
      obtain ⟨g1, o1, rfl, f1⟩ := HRj _ (Below.refl _ _)
      obtain ⟨g2, o2, rfl, f2⟩ := HRm _ (Below.refl _ _)
      have HQ : Hid (∀ W', Below wr.drew.heap.size wr.drew W' → AtP W' g1 o1 j l[j] ∧ AtP W' g2 o2 j lm[j]) := Lib.hid (fun W' hb => by
        obtain ⟨ga, oa, ea, fa⟩ := HRj _ hb
        obtain ⟨gb, ob, eb, fb⟩ := HRm _ hb
        cases ea; cases eb
        exact ⟨fa, fb⟩)
      have hfx := HFn.out.1 l[j] (List.getElem_mem hjl)
      have hfy := HFn.out.2 lm[j] (List.getElem_mem hjm)
      generalize l[j] = x at *
      generalize lm[j] = y at *
      have HL1 := Lib.hid (fun W => zless_ok x y hfx hfy W)
      have HL2 := Lib.hid (fun W => zl_ok x y hfx hfy W)
      clear hd HRj HRm hfx hfy
      go_upto_region 14 with (fail)
      refine beginS (S := fun W => AtP W g1 o1 j x ∧ AtP W g2 o2 j y) [] (by kernel_rfl) ⟨f1, f2⟩ (fun hHeld0 => ?_)
      generalize (World.drew wr) = W0 at *
      clear f1 f2
      refine takeF (i := 0) (v := ?_) rfl (by kernel_rfl) (fun _ _ _ h => h) (Or.inl ⟨by kernel_rfl, ?_⟩) (by assumption) ?_; rotate_left; (focus (intro w _; go_simp; (try with_reducible rfl); done)); (try simp only [Act.put, List.getElem_toArray, List.getElem_cons_succ, List.getElem_cons_zero, List.setIfInBounds_toArray, List.set_cons_zero, List.set_cons_succ])
      refine takeF (i := 1) (v := ?_) rfl (by kernel_rfl) (fun _ _ _ h => h) (Or.inl ⟨by kernel_rfl, ?_⟩) (by assumption) ?_; rotate_left; (focus (intro w _; go_simp; (try with_reducible rfl); done)); (try simp only [Act.put, List.getElem_toArray, List.getElem_cons_succ, List.getElem_cons_zero, List.setIfInBounds_toArray, List.set_cons_zero, List.set_cons_succ])
      refine takeF (i := 2) (v := ?_) rfl (by kernel_rfl) (fun _ _ _ h => h) (Or.inl ⟨by kernel_rfl, ?_⟩) (by assumption) ?_; rotate_left; (focus (intro w _; go_simp; (try with_reducible rfl); done)); (try simp only [Act.put, List.getElem_toArray, List.getElem_cons_succ, List.getElem_cons_zero, List.setIfInBounds_toArray, List.set_cons_zero, List.set_cons_succ])
      refine takeH (i := 3) (v := ?_) rfl (by kernel_rfl) (fun _ _ _ h => h) (Or.inl ⟨by kernel_rfl, ?_⟩) (by assumption) ?_; rotate_left; (focus (intro w hSw; (try dsimp only at hSw); go_simp; (try with_reducible rfl); done)); (try simp only [Act.put, List.getElem_toArray, List.getElem_cons_succ, List.getElem_cons_zero, List.setIfInBounds_toArray, List.set_cons_zero, List.set_cons_succ])
      refine takeF (i := 4) (v := ?_) rfl (by kernel_rfl) (fun _ _ _ h => h) (Or.inl ⟨by kernel_rfl, ?_⟩) (by assumption) ?_; rotate_left; (focus (intro w _; go_simp; (try with_reducible rfl); done)); (try simp only [Act.put, List.getElem_toArray, List.getElem_cons_succ, List.getElem_cons_zero, List.setIfInBounds_toArray, List.set_cons_zero, List.set_cons_succ])
      refine takeF (i := 5) (v := ?_) rfl (by kernel_rfl) (fun _ _ _ h => h) (Or.inl ⟨by kernel_rfl, ?_⟩) (by assumption) ?_; rotate_left; (focus (intro w _; go_simp; (try with_reducible rfl); done)); (try simp only [Act.put, List.getElem_toArray, List.getElem_cons_succ, List.getElem_cons_zero, List.setIfInBounds_toArray, List.set_cons_zero, List.set_cons_succ])
      refine takeF (i := 6) (v := ?_) rfl (by kernel_rfl) (fun _ _ _ h => h) (Or.inl ⟨by kernel_rfl, ?_⟩) (by assumption) ?_; rotate_left; (focus (intro w _; go_simp; (try with_reducible rfl); done)); (try simp only [Act.put, List.getElem_toArray, List.getElem_cons_succ, List.getElem_cons_zero, List.setIfInBounds_toArray, List.set_cons_zero, List.set_cons_succ])
      refine takeH (i := 7) (v := ?_) rfl (by kernel_rfl) (fun _ _ _ h => h) (Or.inl ⟨by kernel_rfl, ?_⟩) (by assumption) ?_; rotate_left; (focus (intro w hSw; (try dsimp only at hSw); go_simp; (try with_reducible rfl); done)); (try simp only [Act.put, List.getElem_toArray, List.getElem_cons_succ, List.getElem_cons_zero, List.setIfInBounds_toArray, List.set_cons_zero, List.set_cons_succ])
      refine takeF (i := 9) (v := ?_) rfl (by kernel_rfl) (fun _ _ _ h => h) (Or.inl ⟨by kernel_rfl, ?_⟩) (by assumption) ?_; rotate_left; (focus (intro w _; go_simp; (try with_reducible rfl); done)); (try simp only [Act.put, List.getElem_toArray, List.getElem_cons_succ, List.getElem_cons_zero, List.setIfInBounds_toArray, List.set_cons_zero, List.set_cons_succ])
      refine takeF (i := 10) (v := ?_) rfl (by kernel_rfl) (fun _ _ _ h => h) (Or.inl ⟨by kernel_rfl, ?_⟩) (by assumption) ?_; rotate_left; (focus (intro w _; go_simp; (try with_reducible rfl); done)); (try simp only [Act.put, List.getElem_toArray, List.getElem_cons_succ, List.getElem_cons_zero, List.setIfInBounds_toArray, List.set_cons_zero, List.set_cons_succ])
      refine takeF (i := 11) (v := ?_) rfl (by kernel_rfl) (fun _ _ _ h => h) (Or.inl ⟨by kernel_rfl, ?_⟩) (by assumption) ?_; rotate_left; (focus (intro w _; go_simp; (try with_reducible rfl); done)); (try simp only [Act.put, List.getElem_toArray, List.getElem_cons_succ, List.getElem_cons_zero, List.setIfInBounds_toArray, List.set_cons_zero, List.set_cons_succ])
      refine takeH (i := 12) (v := ?_) rfl (by kernel_rfl) (fun _ _ _ h => h) (Or.inl ⟨by kernel_rfl, ?_⟩) (by assumption) ?_; rotate_left; (focus (intro w hSw; (try dsimp only at hSw); go_simp; (try with_reducible rfl); done)); (try simp only [Act.put, List.getElem_toArray, List.getElem_cons_succ, List.getElem_cons_zero, List.setIfInBounds_toArray, List.set_cons_zero, List.set_cons_succ])
      refine takeF (i := 13) (v := ?_) rfl (by kernel_rfl) (fun _ _ _ h => h) (Or.inl ⟨by kernel_rfl, ?_⟩) (by assumption) ?_; rotate_left; (focus (intro w _; go_simp; (try with_reducible rfl); done)); (try simp only [Act.put, List.getElem_toArray, List.getElem_cons_succ, List.getElem_cons_zero, List.setIfInBounds_toArray, List.set_cons_zero, List.set_cons_succ])
      refine takeF (i := 14) (v := ?_) rfl (by kernel_rfl) (fun _ _ _ h => h) (Or.inl ⟨by kernel_rfl, ?_⟩) (by assumption) ?_; rotate_left; (focus (intro w _; go_simp; (try with_reducible rfl); done)); (try simp only [Act.put, List.getElem_toArray, List.getElem_cons_succ, List.getElem_cons_zero, List.setIfInBounds_toArray, List.set_cons_zero, List.set_cons_succ])
      refine takeF (i := 15) (v := ?_) rfl (by kernel_rfl) (fun _ _ _ h => h) (Or.inl ⟨by kernel_rfl, ?_⟩) (by assumption) ?_; rotate_left; (focus (intro w _; go_simp; (try with_reducible rfl); done)); (try simp only [Act.put, List.getElem_toArray, List.getElem_cons_succ, List.getElem_cons_zero, List.setIfInBounds_toArray, List.set_cons_zero, List.set_cons_succ])
      refine takeH (i := 16) (v := ?_) rfl (by kernel_rfl) (fun _ _ _ h => h) (Or.inl ⟨by kernel_rfl, ?_⟩) (by assumption) ?_; rotate_left; (focus (intro w hSw; (try dsimp only at hSw); go_simp; (try with_reducible rfl); done)); (try simp only [Act.put, List.getElem_toArray, List.getElem_cons_succ, List.getElem_cons_zero, List.setIfInBounds_toArray, List.set_cons_zero, List.set_cons_succ])
      clear hHeld0
      obtain ⟨B, hBd⟩ : ∃ b, ltc cmZ x y = b := ⟨_, rfl⟩
      rw [hBd] at HL1 HL2
      clear hBd
      refine readyS (rs := [8]) (by kernel_rfl) (by simp) ?_
      refine ReadyS.consH rfl (fun K hK => ?_) ReadyS.nil
      (try simp only [List.getElem_toArray, List.getElem_cons_succ, List.getElem_cons_zero])
      go_simp
      (with_reducible refine (HL1.out W0).mono ?_); rintro e W1 ⟨rfl, hb⟩
      have HX1 := Lib.hid hb
      clear hb
      refine hK.out _ _ (HQ.out _ HX1.out) (fun hHeld => ?_)
      clear hK K
      (try simp only [Act.put, List.getElem_toArray, List.getElem_cons_succ, List.getElem_cons_zero, List.setIfInBounds_toArray, List.set_cons_zero, List.set_cons_succ])
      clear hHeld
      refine readyS (rs := [17]) (by kernel_rfl) (by simp) ?_
      refine ReadyS.consH rfl (fun K hK => ?_) ReadyS.nil
      (try simp only [List.getElem_toArray, List.getElem_cons_succ, List.getElem_cons_zero])
      go_simp
      (with_reducible refine (HL2.out W1).mono ?_); rintro e W2 ⟨rfl, hb⟩
      have HX2 := Lib.hid (below_up HX1.out hb)
      clear hb
      refine hK.out _ _ (HQ.out _ HX2.out) (fun hHeld => ?_)
      clear hK K
      (try simp only [Act.put, List.getElem_toArray, List.getElem_cons_succ, List.getElem_cons_zero, List.setIfInBounds_toArray, List.set_cons_zero, List.set_cons_succ])
      have HD1 := Lib.hid (below_up HD.out HX2.out)
      refine takeF (i := 18) (v := ?_) rfl (by kernel_rfl) (fun _ _ _ h => h) (Or.inl ⟨by kernel_rfl, ?_⟩) (by assumption) ?_; rotate_left; (focus (intro w _; go_simp; (try with_reducible rfl); done)); (try simp only [Act.put, List.getElem_toArray, List.getElem_cons_succ, List.getElem_cons_zero, List.setIfInBounds_toArray, List.set_cons_zero, List.set_cons_succ])
      clear hHeld
      refine doneS (by kernel_rfl) ?_ _
      go_wp2
      exact ⟨⟨j + 1, by go_num, by omega, HD1.out⟩, by simp [intOf]; omega⟩
    · have hb0 := below_up HB1.out (below_up HBr.out HBj.out)
      have HS1 := Lib.hid (HSt.out wr (HV.out.below hb0))
      have HB0 := Lib.hid hb0
      have HCc : Hid (decide (j < l.length ∧ j < lm.length) = false) := Lib.hid (decide_eq_false hjl)
      clear hb0
      go_upto_region 12 with (fail)
      go_cut [59] from 50 to 59 (fun v wx => v = .bool false ∧ wx = wr)
      case first =>
        by_cases c1 : j < l.length
        · have d2 : decide (j < l.length) = true := decide_eq_true c1
          have d2i : decide ((j : Int) < l.length) = true := decide_eq_true (by omega)
          have d3 : decide (j < lm.length) = false := decide_eq_false (fun h => hjl ⟨c1, h⟩)
          have d3i : decide ((j : Int) < lm.length) = false := decide_eq_false (by intro h; exact hjl ⟨c1, by omega⟩)
          go_wp2
          go_meet
          case rel => exact ⟨rfl, rfl⟩
        · have d2 : decide (j < l.length) = false := decide_eq_false c1
          have d2i : decide ((j : Int) < l.length) = false := decide_eq_false (by omega)
          go_wp2
          go_meet
          case rel => exact ⟨rfl, rfl⟩
      case rest =>
      obtain ⟨rfl, hwc⟩ := hcut
      replace hwc := hwc.symm; subst hwc
      go_wp2_with fail
      (with_reducible refine HS1.out.mono ?_); rintro e w5 ⟨v5, rfl, ho5, hb5⟩
      have HP1 := Lib.hid (points_same v5 (.slice Ao l.length co) (byZ l) w5 (by
        have := srd_own PtS.cells_len (by decide) ho5
        exact this) ((HW.out.below HBj.out).below hb5) (by rw [byZ_len]; omega))
      have HB5 := Lib.hid (below_up HB0.out hb5)
      clear ho5 hb5
      go_wp2_with fail
      (with_reducible refine HP1.out.mono ?_); rintro e w6 ⟨rfl, hb6⟩
      have HB6 := Lib.hid (below_up HB5.out hb6)
      clear hb6
      go_wp2
      go_ret
      exact ⟨rfl, HB6.out⟩
end Go.Proofs.Ytjikndfpkhgnkaa.St
