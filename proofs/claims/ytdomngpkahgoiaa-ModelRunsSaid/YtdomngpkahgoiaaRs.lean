/- The walk over croftref23.Sort. -/
import Derived.Test.YtdomngpkahgoiaaMd0
import Derived.Deep.CutBlock
namespace Go.Proofs.Ytdomngpkahgoiaa.Md
open Go.RowKit Rg Pt St
set_option linter.unusedVariables false
set_option linter.unusedSimpArgs false
theorem take_snoc' {α : Type} (l : List α) (i : Nat) (h : i < l.length) : l.take (i + 1) = l.take i ++ [l[i]] := List.take_succ_eq_append_getElem h
set_option maxHeartbeats 8000000 in
set_option maxRecDepth 100000 in
theorem sort23_ok (v : Value) (l : List PtS) (w : World) (hv : PRow w v l) (hl : l.length ≤ 1000000) :
    Calls Try.prog 25 #[v] w fun e w' => ∃ v', e = .returned v' ∧ w'.ownsRow w.heap.size 56 4 v' l.length ((byId l).flatMap PtS.cells) ∧ Below w.heap.size w w' := by
  have HV := Lib.hid hv
  obtain ⟨A0, c0, rfl, hc0, _⟩ := hv
  go_enter Try.func25, Try.ntmps25
  go_wp2_with fail
  go_loopw [3, 4] (fun vo vi W' => ∃ (i : Nat) (Ao : Option Addr) (co : Nat), vi = .int .i64 i ∧ i ≤ l.length ∧ vo = .slice Ao i co ∧ i ≤ co ∧ W'.ownsRow w.heap.size 56 4 (.slice Ao i co) i ((byId (l.take i)).flatMap PtS.cells) ∧ Below w.heap.size w W') (fun _ vi _ => l.length - (intOf vi).toNat)
  case atStart => exact ⟨0, none, 0, rfl, Nat.zero_le _, rfl, Nat.le_refl _, by simp [byId]; exact ⟨rfl, .inl ⟨rfl, rfl⟩⟩, Below.refl _ _⟩
  case round =>
  obtain ⟨i, Ao, co, rfl, hi, rfl, hco, hO, hB⟩ := hrel
  have HO := Lib.hid hO
  have HBr := Lib.hid hB
  clear hO hB
  obtain ⟨w3, rfl⟩ : ∃ W, W = wr := ⟨_, rfl⟩
  by_cases hlt : i < l.length
  · have d : decide (i < l.length) = true := decide_eq_true hlt
    have di : decide ((i : Int) < l.length) = true := decide_eq_true (by omega)
    have bi : (i : Int) < l.length := by omega
    obtain ⟨own, hown⟩ : ∃ own, byId (l.take i) = own := ⟨_, rfl⟩
    have hol : own.length = i := by rw [← hown, byId_length, List.length_take]; omega
    have HOn := Lib.hid hown
    obtain ⟨g0, o0, rfl, f0⟩ := p_at (HV.out.below HBr.out) hlt
    have hx0 : ∀ W', Below w3.heap.size w3 W' → AtP W' g0 o0 i l[i] := fun W' hb => by
      obtain ⟨g1, o1, e1, f1⟩ := p_at (HV.out.below (below_up HBr.out hb)) hlt
      cases e1
      exact f1
    have hsn := take_snoc' l i hlt
    obtain ⟨x, hxe⟩ : ∃ x, l[i] = x := ⟨_, rfl⟩
    rw [hxe] at hx0 hsn f0
    have HXe := Lib.hid hxe
    clear hxe
    have HX0 := Lib.hid hx0
    have HSn := Lib.hid hsn
    have HOwn : Hid (PRow w3 (.slice Ao own.length co) own) := Lib.hid (by rw [hol]; have := HO.out; rw [hown] at this; exact srd_own PtS.cells_len (by decide) this)
    have HOl := Lib.hid hol
    have hol1 : own.length ≤ i := by omega
    have hol2 : i ≤ own.length := by omega
    clear hx0 hsn f0 hown hol
    go_upto_block 2 with (fail)
    go_cut [5] (fun v5 wx => ∃ k : Nat, v5 = .int .i64 k ∧ k ≤ own.length ∧ (0 < k → ∀ y, own[k - 1]? = some y → ¬ x.id < y.id) ∧ (k < own.length → ∀ y, own[k]? = some y → x.id < y.id) ∧ Below w3.heap.size w3 wx)
    case first =>
      go_wp2_with fail
      go_loopw [5] (fun v5 W => ∃ k : Nat, v5 = .int .i64 k ∧ k ≤ own.length ∧ (k < own.length → ∀ y, own[k]? = some y → x.id < y.id) ∧ Below w3.heap.size w3 W) (fun v5 _ => (intOf v5).toNat)
      case atStart => exact ⟨own.length, by rw [HOl.out], Nat.le_refl _, fun h => by omega, Below.refl _ _⟩
      case round =>
      obtain ⟨k, rfl, hk, hkl, hb⟩ := hrel
      have HKL := Lib.hid hkl; have HBk := Lib.hid hb
      clear hkl hb
      by_cases hk0 : 0 < k
      · have dk : decide ((k : Int) > 0) = true := decide_eq_true (by omega)
        have dkn : decide (0 < k) = true := decide_eq_true hk0
        obtain ⟨m, hm⟩ : ∃ m : Nat, k - 1 = m := ⟨_, rfl⟩
        have hw : IntKind.i64.wrap ((k : Int) - 1) = (m : Int) := by rw [IntWalk.i64_in _ (by omega)]; omega
        have hw2 : (k : Int) - 1 = (m : Int) := by omega
        have hm0 : IntKind.i64.wrap (m : Int) = (m : Int) := by rw [IntWalk.i64_in _ (by omega)]
        have hmo : m < own.length := by omega
        have bm : (m : Int) < own.length := by omega
        have bm2 : (m : Int) < i := by omega
        have hmk1 : m + 1 ≤ k := by omega
        have HD := Lib.hid (below_up HBk.out (below_drew1 (w := wr)))
        obtain ⟨g5, o5, rfl, f5⟩ := p_at (HOwn.out.below HD.out) hmo
        have f0 := HX0.out _ HD.out
        have HY : Hid (own[m]? = some own[m]) := Lib.hid (List.getElem?_eq_getElem hmo)
        have HKm := Lib.hid hm
        generalize own[m] = y at *
        clear hm
        go_upto_region 6 with (fail)
        refine beginS (S := fun W => AtP W g0 o0 i x ∧ AtP W g5 o5 m y) [] (by kernel_rfl) ⟨f0, f5⟩ (fun hHeld0 => ?_)
        generalize (World.drew wr) = W0 at *
        clear f0 f5
        by_cases hlt3 : x.id < y.id
        · have dl : decide (x.id < y.id) = true := decide_eq_true hlt3
          refine takeF (i := 0) (v := ?_) rfl (by kernel_rfl) (fun _ _ _ h => h) (Or.inl ⟨by kernel_rfl, ?_⟩) (by assumption) ?_; rotate_left; (focus (intro w _; go_simp; (try with_reducible rfl); done)); (try simp only [Act.put, List.getElem_toArray, List.getElem_cons_succ, List.getElem_cons_zero, List.setIfInBounds_toArray, List.set_cons_zero, List.set_cons_succ])
          refine takeF (i := 1) (v := ?_) rfl (by kernel_rfl) (fun _ _ _ h => h) (Or.inl ⟨by kernel_rfl, ?_⟩) (by assumption) ?_; rotate_left; (focus (intro w _; go_simp; (try with_reducible rfl); done)); (try simp only [Act.put, List.getElem_toArray, List.getElem_cons_succ, List.getElem_cons_zero, List.setIfInBounds_toArray, List.set_cons_zero, List.set_cons_succ])
          refine takeF (i := 2) (v := ?_) rfl (by kernel_rfl) (fun _ _ _ h => h) (Or.inl ⟨by kernel_rfl, ?_⟩) (by assumption) ?_; rotate_left; (focus (intro w _; go_simp; (try with_reducible rfl); done)); (try simp only [Act.put, List.getElem_toArray, List.getElem_cons_succ, List.getElem_cons_zero, List.setIfInBounds_toArray, List.set_cons_zero, List.set_cons_succ])
          refine takeF (i := 3) (v := ?_) rfl (by kernel_rfl) (fun _ _ _ h => h) (Or.inl ⟨by kernel_rfl, ?_⟩) (by assumption) ?_; rotate_left; (focus (intro w _; go_simp; (try with_reducible rfl); done)); (try simp only [Act.put, List.getElem_toArray, List.getElem_cons_succ, List.getElem_cons_zero, List.setIfInBounds_toArray, List.set_cons_zero, List.set_cons_succ])
          refine takeF (i := 4) (v := ?_) rfl (by kernel_rfl) (fun _ _ _ h => h) (Or.inl ⟨by kernel_rfl, ?_⟩) (by assumption) ?_; rotate_left; (focus (intro w _; go_simp; (try with_reducible rfl); done)); (try simp only [Act.put, List.getElem_toArray, List.getElem_cons_succ, List.getElem_cons_zero, List.setIfInBounds_toArray, List.set_cons_zero, List.set_cons_succ])
          refine takeF (i := 5) (v := ?_) rfl (by kernel_rfl) (fun _ _ _ h => h) (Or.inl ⟨by kernel_rfl, ?_⟩) (by assumption) ?_; rotate_left; (focus (intro w _; go_simp; (try with_reducible rfl); done)); (try simp only [Act.put, List.getElem_toArray, List.getElem_cons_succ, List.getElem_cons_zero, List.setIfInBounds_toArray, List.set_cons_zero, List.set_cons_succ])
          refine takeF (i := 6) (v := ?_) rfl (by kernel_rfl) (fun _ _ _ h => h) (Or.inl ⟨by kernel_rfl, ?_⟩) (by assumption) ?_; rotate_left; (focus (intro w _; go_simp; (try with_reducible rfl); done)); (try simp only [Act.put, List.getElem_toArray, List.getElem_cons_succ, List.getElem_cons_zero, List.setIfInBounds_toArray, List.set_cons_zero, List.set_cons_succ])
          refine takeF (i := 7) (v := ?_) rfl (by kernel_rfl) (fun _ _ _ h => h) (Or.inl ⟨by kernel_rfl, ?_⟩) (by assumption) ?_; rotate_left; (focus (intro w _; go_simp; (try with_reducible rfl); done)); (try simp only [Act.put, List.getElem_toArray, List.getElem_cons_succ, List.getElem_cons_zero, List.setIfInBounds_toArray, List.set_cons_zero, List.set_cons_succ])
          refine takeH (i := 8) (v := ?_) rfl (by kernel_rfl) (fun _ _ _ h => h) (Or.inl ⟨by kernel_rfl, ?_⟩) (by assumption) ?_; rotate_left; (focus (intro w hSw; (try dsimp only at hSw); go_simp; (try with_reducible rfl); done)); (try simp only [Act.put, List.getElem_toArray, List.getElem_cons_succ, List.getElem_cons_zero, List.setIfInBounds_toArray, List.set_cons_zero, List.set_cons_succ])
          refine takeF (i := 9) (v := ?_) rfl (by kernel_rfl) (fun _ _ _ h => h) (Or.inl ⟨by kernel_rfl, ?_⟩) (by assumption) ?_; rotate_left; (focus (intro w _; go_simp; (try with_reducible rfl); done)); (try simp only [Act.put, List.getElem_toArray, List.getElem_cons_succ, List.getElem_cons_zero, List.setIfInBounds_toArray, List.set_cons_zero, List.set_cons_succ])
          refine takeF (i := 10) (v := ?_) rfl (by kernel_rfl) (fun _ _ _ h => h) (Or.inl ⟨by kernel_rfl, ?_⟩) (by assumption) ?_; rotate_left; (focus (intro w _; go_simp; (try with_reducible rfl); done)); (try simp only [Act.put, List.getElem_toArray, List.getElem_cons_succ, List.getElem_cons_zero, List.setIfInBounds_toArray, List.set_cons_zero, List.set_cons_succ])
          refine takeF (i := 11) (v := ?_) rfl (by kernel_rfl) (fun _ _ _ h => h) (Or.inl ⟨by kernel_rfl, ?_⟩) (by assumption) ?_; rotate_left; (focus (intro w _; go_simp; (try with_reducible rfl); done)); (try simp only [Act.put, List.getElem_toArray, List.getElem_cons_succ, List.getElem_cons_zero, List.setIfInBounds_toArray, List.set_cons_zero, List.set_cons_succ])
          refine takeF (i := 12) (v := ?_) rfl (by kernel_rfl) (fun _ _ _ h => h) (Or.inl ⟨by kernel_rfl, ?_⟩) (by assumption) ?_; rotate_left; (focus (intro w _; go_simp; (try with_reducible rfl); done)); (try simp only [Act.put, List.getElem_toArray, List.getElem_cons_succ, List.getElem_cons_zero, List.setIfInBounds_toArray, List.set_cons_zero, List.set_cons_succ])
          refine takeH (i := 13) (v := ?_) rfl (by kernel_rfl) (fun _ _ _ h => h) (Or.inl ⟨by kernel_rfl, ?_⟩) (by assumption) ?_; rotate_left; (focus (intro w hSw; (try dsimp only at hSw); go_simp; (try with_reducible rfl); done)); (try simp only [Act.put, List.getElem_toArray, List.getElem_cons_succ, List.getElem_cons_zero, List.setIfInBounds_toArray, List.set_cons_zero, List.set_cons_succ])
          refine takeF (i := 14) (v := ?_) rfl (by kernel_rfl) (fun _ _ _ h => h) (Or.inl ⟨by kernel_rfl, ?_⟩) (by assumption) ?_; rotate_left; (focus (intro w _; go_simp; (try with_reducible rfl); done)); (try simp only [Act.put, List.getElem_toArray, List.getElem_cons_succ, List.getElem_cons_zero, List.setIfInBounds_toArray, List.set_cons_zero, List.set_cons_succ])
          refine takeF (i := 15) (v := ?_) rfl (by kernel_rfl) (fun _ _ _ h => h) (Or.inl ⟨by kernel_rfl, ?_⟩) (by assumption) ?_; rotate_left; (focus (intro w _; go_simp; (try with_reducible rfl); done)); (try simp only [Act.put, List.getElem_toArray, List.getElem_cons_succ, List.getElem_cons_zero, List.setIfInBounds_toArray, List.set_cons_zero, List.set_cons_succ])
          clear hHeld0
          refine doneS (by kernel_rfl) ?_ _
          go_wp2
          exact ⟨⟨m, rfl, by omega, fun _ y' e => by rw [HY.out] at e; cases e; exact hlt3, HD.out⟩, by simp [intOf]; omega⟩
        · have dl : decide (x.id < y.id) = false := decide_eq_false hlt3
          refine takeF (i := 0) (v := ?_) rfl (by kernel_rfl) (fun _ _ _ h => h) (Or.inl ⟨by kernel_rfl, ?_⟩) (by assumption) ?_; rotate_left; (focus (intro w _; go_simp; (try with_reducible rfl); done)); (try simp only [Act.put, List.getElem_toArray, List.getElem_cons_succ, List.getElem_cons_zero, List.setIfInBounds_toArray, List.set_cons_zero, List.set_cons_succ])
          refine takeF (i := 1) (v := ?_) rfl (by kernel_rfl) (fun _ _ _ h => h) (Or.inl ⟨by kernel_rfl, ?_⟩) (by assumption) ?_; rotate_left; (focus (intro w _; go_simp; (try with_reducible rfl); done)); (try simp only [Act.put, List.getElem_toArray, List.getElem_cons_succ, List.getElem_cons_zero, List.setIfInBounds_toArray, List.set_cons_zero, List.set_cons_succ])
          refine takeF (i := 2) (v := ?_) rfl (by kernel_rfl) (fun _ _ _ h => h) (Or.inl ⟨by kernel_rfl, ?_⟩) (by assumption) ?_; rotate_left; (focus (intro w _; go_simp; (try with_reducible rfl); done)); (try simp only [Act.put, List.getElem_toArray, List.getElem_cons_succ, List.getElem_cons_zero, List.setIfInBounds_toArray, List.set_cons_zero, List.set_cons_succ])
          refine takeF (i := 3) (v := ?_) rfl (by kernel_rfl) (fun _ _ _ h => h) (Or.inl ⟨by kernel_rfl, ?_⟩) (by assumption) ?_; rotate_left; (focus (intro w _; go_simp; (try with_reducible rfl); done)); (try simp only [Act.put, List.getElem_toArray, List.getElem_cons_succ, List.getElem_cons_zero, List.setIfInBounds_toArray, List.set_cons_zero, List.set_cons_succ])
          refine takeF (i := 4) (v := ?_) rfl (by kernel_rfl) (fun _ _ _ h => h) (Or.inl ⟨by kernel_rfl, ?_⟩) (by assumption) ?_; rotate_left; (focus (intro w _; go_simp; (try with_reducible rfl); done)); (try simp only [Act.put, List.getElem_toArray, List.getElem_cons_succ, List.getElem_cons_zero, List.setIfInBounds_toArray, List.set_cons_zero, List.set_cons_succ])
          refine takeF (i := 5) (v := ?_) rfl (by kernel_rfl) (fun _ _ _ h => h) (Or.inl ⟨by kernel_rfl, ?_⟩) (by assumption) ?_; rotate_left; (focus (intro w _; go_simp; (try with_reducible rfl); done)); (try simp only [Act.put, List.getElem_toArray, List.getElem_cons_succ, List.getElem_cons_zero, List.setIfInBounds_toArray, List.set_cons_zero, List.set_cons_succ])
          refine takeF (i := 6) (v := ?_) rfl (by kernel_rfl) (fun _ _ _ h => h) (Or.inl ⟨by kernel_rfl, ?_⟩) (by assumption) ?_; rotate_left; (focus (intro w _; go_simp; (try with_reducible rfl); done)); (try simp only [Act.put, List.getElem_toArray, List.getElem_cons_succ, List.getElem_cons_zero, List.setIfInBounds_toArray, List.set_cons_zero, List.set_cons_succ])
          refine takeF (i := 7) (v := ?_) rfl (by kernel_rfl) (fun _ _ _ h => h) (Or.inl ⟨by kernel_rfl, ?_⟩) (by assumption) ?_; rotate_left; (focus (intro w _; go_simp; (try with_reducible rfl); done)); (try simp only [Act.put, List.getElem_toArray, List.getElem_cons_succ, List.getElem_cons_zero, List.setIfInBounds_toArray, List.set_cons_zero, List.set_cons_succ])
          refine takeH (i := 8) (v := ?_) rfl (by kernel_rfl) (fun _ _ _ h => h) (Or.inl ⟨by kernel_rfl, ?_⟩) (by assumption) ?_; rotate_left; (focus (intro w hSw; (try dsimp only at hSw); go_simp; (try with_reducible rfl); done)); (try simp only [Act.put, List.getElem_toArray, List.getElem_cons_succ, List.getElem_cons_zero, List.setIfInBounds_toArray, List.set_cons_zero, List.set_cons_succ])
          refine takeF (i := 9) (v := ?_) rfl (by kernel_rfl) (fun _ _ _ h => h) (Or.inl ⟨by kernel_rfl, ?_⟩) (by assumption) ?_; rotate_left; (focus (intro w _; go_simp; (try with_reducible rfl); done)); (try simp only [Act.put, List.getElem_toArray, List.getElem_cons_succ, List.getElem_cons_zero, List.setIfInBounds_toArray, List.set_cons_zero, List.set_cons_succ])
          refine takeF (i := 10) (v := ?_) rfl (by kernel_rfl) (fun _ _ _ h => h) (Or.inl ⟨by kernel_rfl, ?_⟩) (by assumption) ?_; rotate_left; (focus (intro w _; go_simp; (try with_reducible rfl); done)); (try simp only [Act.put, List.getElem_toArray, List.getElem_cons_succ, List.getElem_cons_zero, List.setIfInBounds_toArray, List.set_cons_zero, List.set_cons_succ])
          refine takeF (i := 11) (v := ?_) rfl (by kernel_rfl) (fun _ _ _ h => h) (Or.inl ⟨by kernel_rfl, ?_⟩) (by assumption) ?_; rotate_left; (focus (intro w _; go_simp; (try with_reducible rfl); done)); (try simp only [Act.put, List.getElem_toArray, List.getElem_cons_succ, List.getElem_cons_zero, List.setIfInBounds_toArray, List.set_cons_zero, List.set_cons_succ])
          refine takeF (i := 12) (v := ?_) rfl (by kernel_rfl) (fun _ _ _ h => h) (Or.inl ⟨by kernel_rfl, ?_⟩) (by assumption) ?_; rotate_left; (focus (intro w _; go_simp; (try with_reducible rfl); done)); (try simp only [Act.put, List.getElem_toArray, List.getElem_cons_succ, List.getElem_cons_zero, List.setIfInBounds_toArray, List.set_cons_zero, List.set_cons_succ])
          refine takeH (i := 13) (v := ?_) rfl (by kernel_rfl) (fun _ _ _ h => h) (Or.inl ⟨by kernel_rfl, ?_⟩) (by assumption) ?_; rotate_left; (focus (intro w hSw; (try dsimp only at hSw); go_simp; (try with_reducible rfl); done)); (try simp only [Act.put, List.getElem_toArray, List.getElem_cons_succ, List.getElem_cons_zero, List.setIfInBounds_toArray, List.set_cons_zero, List.set_cons_succ])
          refine takeF (i := 14) (v := ?_) rfl (by kernel_rfl) (fun _ _ _ h => h) (Or.inl ⟨by kernel_rfl, ?_⟩) (by assumption) ?_; rotate_left; (focus (intro w _; go_simp; (try with_reducible rfl); done)); (try simp only [Act.put, List.getElem_toArray, List.getElem_cons_succ, List.getElem_cons_zero, List.setIfInBounds_toArray, List.set_cons_zero, List.set_cons_succ])
          refine takeF (i := 15) (v := ?_) rfl (by kernel_rfl) (fun _ _ _ h => h) (Or.inl ⟨by kernel_rfl, ?_⟩) (by assumption) ?_; rotate_left; (focus (intro w _; go_simp; (try with_reducible rfl); done)); (try simp only [Act.put, List.getElem_toArray, List.getElem_cons_succ, List.getElem_cons_zero, List.setIfInBounds_toArray, List.set_cons_zero, List.set_cons_succ])
          clear hHeld0
          refine doneS (by kernel_rfl) ?_ _
          go_wp2
          go_meet
          case rel => exact ⟨k, rfl, hk, fun _ y' e => by rw [HKm.out, HY.out] at e; cases e; exact hlt3, HKL.out, HD.out⟩
      · obtain rfl : k = 0 := by omega
        have HD := Lib.hid (below_up HBk.out (below_drew1 (w := wr)))
        go_upto_region 6 with (fail)
        refine beginS (S := fun W => True) [] (by kernel_rfl) trivial (fun hHeld0 => ?_)
        generalize (World.drew wr) = W0 at *
        refine takeF (i := 0) (v := ?_) rfl (by kernel_rfl) (fun _ _ _ h => h) (Or.inl ⟨by kernel_rfl, ?_⟩) (by assumption) ?_; rotate_left; (focus (intro w _; go_simp; (try with_reducible rfl); done)); (try simp only [Act.put, List.getElem_toArray, List.getElem_cons_succ, List.getElem_cons_zero, List.setIfInBounds_toArray, List.set_cons_zero, List.set_cons_succ])
        refine takeF (i := 1) (v := ?_) rfl (by kernel_rfl) (fun _ _ _ h => h) (Or.inl ⟨by kernel_rfl, ?_⟩) (by assumption) ?_; rotate_left; (focus (intro w _; go_simp; (try with_reducible rfl); done)); (try simp only [Act.put, List.getElem_toArray, List.getElem_cons_succ, List.getElem_cons_zero, List.setIfInBounds_toArray, List.set_cons_zero, List.set_cons_succ])
        refine takeF (i := 2) (v := ?_) rfl (by kernel_rfl) (fun _ _ _ h => h) (Or.inl ⟨by kernel_rfl, ?_⟩) (by assumption) ?_; rotate_left; (focus (intro w _; go_simp; (try with_reducible rfl); done)); (try simp only [Act.put, List.getElem_toArray, List.getElem_cons_succ, List.getElem_cons_zero, List.setIfInBounds_toArray, List.set_cons_zero, List.set_cons_succ])
        refine takeF (i := 3) (v := undef) rfl (by kernel_rfl) (fun _ _ _ h => h) (Or.inr ⟨by kernel_rfl, rfl⟩) (by assumption) ?_; (try simp only [Act.put, List.getElem_toArray, List.getElem_cons_succ, List.getElem_cons_zero, List.setIfInBounds_toArray, List.set_cons_zero, List.set_cons_succ])
        refine takeF (i := 4) (v := undef) rfl (by kernel_rfl) (fun _ _ _ h => h) (Or.inr ⟨by kernel_rfl, rfl⟩) (by assumption) ?_; (try simp only [Act.put, List.getElem_toArray, List.getElem_cons_succ, List.getElem_cons_zero, List.setIfInBounds_toArray, List.set_cons_zero, List.set_cons_succ])
        refine takeF (i := 5) (v := undef) rfl (by kernel_rfl) (fun _ _ _ h => h) (Or.inr ⟨by kernel_rfl, rfl⟩) (by assumption) ?_; (try simp only [Act.put, List.getElem_toArray, List.getElem_cons_succ, List.getElem_cons_zero, List.setIfInBounds_toArray, List.set_cons_zero, List.set_cons_succ])
        refine takeF (i := 6) (v := undef) rfl (by kernel_rfl) (fun _ _ _ h => h) (Or.inr ⟨by kernel_rfl, rfl⟩) (by assumption) ?_; (try simp only [Act.put, List.getElem_toArray, List.getElem_cons_succ, List.getElem_cons_zero, List.setIfInBounds_toArray, List.set_cons_zero, List.set_cons_succ])
        refine takeF (i := 7) (v := undef) rfl (by kernel_rfl) (fun _ _ _ h => h) (Or.inr ⟨by kernel_rfl, rfl⟩) (by assumption) ?_; (try simp only [Act.put, List.getElem_toArray, List.getElem_cons_succ, List.getElem_cons_zero, List.setIfInBounds_toArray, List.set_cons_zero, List.set_cons_succ])
        refine takeF (i := 8) (v := undef) rfl (by kernel_rfl) (fun _ _ _ h => h) (Or.inr ⟨by kernel_rfl, rfl⟩) (by assumption) ?_; (try simp only [Act.put, List.getElem_toArray, List.getElem_cons_succ, List.getElem_cons_zero, List.setIfInBounds_toArray, List.set_cons_zero, List.set_cons_succ])
        refine takeF (i := 9) (v := undef) rfl (by kernel_rfl) (fun _ _ _ h => h) (Or.inr ⟨by kernel_rfl, rfl⟩) (by assumption) ?_; (try simp only [Act.put, List.getElem_toArray, List.getElem_cons_succ, List.getElem_cons_zero, List.setIfInBounds_toArray, List.set_cons_zero, List.set_cons_succ])
        refine takeF (i := 10) (v := undef) rfl (by kernel_rfl) (fun _ _ _ h => h) (Or.inr ⟨by kernel_rfl, rfl⟩) (by assumption) ?_; (try simp only [Act.put, List.getElem_toArray, List.getElem_cons_succ, List.getElem_cons_zero, List.setIfInBounds_toArray, List.set_cons_zero, List.set_cons_succ])
        refine takeF (i := 11) (v := undef) rfl (by kernel_rfl) (fun _ _ _ h => h) (Or.inr ⟨by kernel_rfl, rfl⟩) (by assumption) ?_; (try simp only [Act.put, List.getElem_toArray, List.getElem_cons_succ, List.getElem_cons_zero, List.setIfInBounds_toArray, List.set_cons_zero, List.set_cons_succ])
        refine takeF (i := 12) (v := undef) rfl (by kernel_rfl) (fun _ _ _ h => h) (Or.inr ⟨by kernel_rfl, rfl⟩) (by assumption) ?_; (try simp only [Act.put, List.getElem_toArray, List.getElem_cons_succ, List.getElem_cons_zero, List.setIfInBounds_toArray, List.set_cons_zero, List.set_cons_succ])
        refine takeF (i := 13) (v := undef) rfl (by kernel_rfl) (fun _ _ _ h => h) (Or.inr ⟨by kernel_rfl, rfl⟩) (by assumption) ?_; (try simp only [Act.put, List.getElem_toArray, List.getElem_cons_succ, List.getElem_cons_zero, List.setIfInBounds_toArray, List.set_cons_zero, List.set_cons_succ])
        refine takeF (i := 14) (v := undef) rfl (by kernel_rfl) (fun _ _ _ h => h) (Or.inr ⟨by kernel_rfl, rfl⟩) (by assumption) ?_; (try simp only [Act.put, List.getElem_toArray, List.getElem_cons_succ, List.getElem_cons_zero, List.setIfInBounds_toArray, List.set_cons_zero, List.set_cons_succ])
        refine takeF (i := 15) (v := ?_) rfl (by kernel_rfl) (fun _ _ _ h => h) (Or.inl ⟨by kernel_rfl, ?_⟩) (by assumption) ?_; rotate_left; (focus (intro w _; go_simp; (try with_reducible rfl); done)); (try simp only [Act.put, List.getElem_toArray, List.getElem_cons_succ, List.getElem_cons_zero, List.setIfInBounds_toArray, List.set_cons_zero, List.set_cons_succ])
        clear hHeld0
        refine doneS (by kernel_rfl) ?_ _
        go_wp2
        go_meet
        case rel => exact ⟨0, rfl, hk, fun h => by omega, HKL.out, HD.out⟩
    case rest =>
    obtain ⟨k, rfl, hk, hkn, hkl, hb⟩ := hcut
    have HBc := Lib.hid hb
    have HIns : Hid (own.take k ++ x :: own.drop k = byId (l.take (i + 1))) := Lib.hid (by
      rw [HSn.out]
      refine ins_sort swo_id (l.take i) own HOn.out x (by rw [List.length_take]; omega) (fun h y e => ?_) (fun h y e => ?_)
      · rw [ltc_id]; exact decide_eq_false (hkn h y e)
      · rw [ltc_id]; exact decide_eq_true (hkl (by rw [List.length_take] at h; omega) y e))
    clear hkn hkl hb
    have bk : (k : Int) ≤ own.length := by omega
    have bkc : (k : Int) ≤ co := by omega
    have bki : (k : Int) ≤ i := by omega
    have bnc : (own.length : Int) ≤ co := by omega
    have bic : (i : Int) ≤ co := by omega
    have HFin2 : Hid (∀ (W' : World) (A : Option Addr) (n c : Nat), W'.ownsRow w3.heap.size 56 4 (.slice A n c) (own.take k ++ (x :: own.drop k)).length ((own.take k ++ (x :: own.drop k)).flatMap PtS.cells) → Below w3.heap.size w3 W' →
        n = i + 1 ∧ i + 1 ≤ c ∧ W'.ownsRow w.heap.size 56 4 (.slice A (i + 1) c) (i + 1) ((byId (l.take (i + 1))).flatMap PtS.cells) ∧ Below w.heap.size w W') := Lib.hid (fun W' A n c hown hb => by
      have hln : (own.take k ++ (x :: own.drop k)).length = i + 1 := by rw [HIns.out, byId_length, List.length_take]; omega
      obtain ⟨A', c', e, hc1, _⟩ := own_rd hown
      injection e with e1 e2 e3
      have hnn : n = i + 1 := by omega
      subst hnn
      have h1 := own_lower hown (base' := w.heap.size) HBr.out.size
      rw [hln, HIns.out] at h1
      exact ⟨rfl, by rw [e3]; omega, h1, below_up HBr.out hb⟩)
    go_upto_region 8 with (fail)
    have HB3 := Lib.hid (below_up HBc.out (below_drew1 (w := wc)))
    have HQ : Hid (∀ W' : World, Below w3.heap.size w3 W' → AtP W' g0 o0 i x ∧ Below w3.heap.size w3 W') := Lib.hid (fun W' hb => ⟨HX0.out W' hb, hb⟩)
    have HRt : Hid (∀ W' : World, Below w3.heap.size w3 W' → Rd W' Ao ((own.take k).flatMap PtS.cells) ∧ Rd W' (if co = k then Ao else Option.map (fun x => x.add (k * 4)) Ao) ((own.drop k).flatMap PtS.cells)) := Lib.hid (fun W' hb => prow_parts (HOwn.out.below hb) hk)
    have HFin : Hid (∀ (W' : World) (v : Value) (n : Nat), W'.ownsRow w3.heap.size 56 4 v n ((own.take k).flatMap PtS.cells ++ [x].flatMap PtS.cells ++ (own.drop k).flatMap PtS.cells) → W'.ownsRow w3.heap.size 56 4 v (own.take k ++ (x :: own.drop k)).length ((own.take k ++ (x :: own.drop k)).flatMap PtS.cells)) := Lib.hid (fun W' v n h => by
      have hl := own_len h
      have e : (own.take k).flatMap PtS.cells ++ [x].flatMap PtS.cells ++ (own.drop k).flatMap PtS.cells = (own.take k ++ (x :: own.drop k)).flatMap PtS.cells := by simp [List.flatMap_append, List.flatMap_cons]
      rw [e] at h hl
      rw [flat_len PtS.cells_len] at hl
      rw [Nat.eq_of_mul_eq_mul_right (by decide) hl]
      exact h)
    refine beginS (S := fun W' => AtP W' g0 o0 i x ∧ Below w3.heap.size w3 W') [] (by kernel_rfl) (HQ.out _ HB3.out) (fun hHeld0 => ?_)
    have Hb := HB3
    clear HB3
    generalize (World.drew wc) = Wc at *
    refine takeF (i := 1) (v := ?_) rfl (by kernel_rfl) (fun _ _ _ h => h) (Or.inl ⟨by kernel_rfl, ?_⟩) (by assumption) ?_; rotate_left; (focus (intro w _; go_simp; (try with_reducible rfl); done)); (try simp only [Act.put, List.getElem_toArray, List.getElem_cons_succ, List.getElem_cons_zero, List.setIfInBounds_toArray, List.set_cons_zero, List.set_cons_succ])
    refine takeF (i := 2) (v := ?_) rfl (by kernel_rfl) (fun _ _ _ h => h) (Or.inl ⟨by kernel_rfl, ?_⟩) (by assumption) ?_; rotate_left; (focus (intro w _; go_simp; (try with_reducible rfl); done)); (try simp only [Act.put, List.getElem_toArray, List.getElem_cons_succ, List.getElem_cons_zero, List.setIfInBounds_toArray, List.set_cons_zero, List.set_cons_succ])
    refine takeF (i := 3) (v := ?_) rfl (by kernel_rfl) (fun _ _ _ h => h) (Or.inl ⟨by kernel_rfl, ?_⟩) (by assumption) ?_; rotate_left; (focus (intro w _; go_simp; (try with_reducible rfl); done)); (try simp only [Act.put, List.getElem_toArray, List.getElem_cons_succ, List.getElem_cons_zero, List.setIfInBounds_toArray, List.set_cons_zero, List.set_cons_succ])
    refine takeF (i := 5) (v := ?_) rfl (by kernel_rfl) (fun _ _ _ h => h) (Or.inl ⟨by kernel_rfl, ?_⟩) (by assumption) ?_; rotate_left; (focus (intro w _; go_simp; (try with_reducible rfl); done)); (try simp only [Act.put, List.getElem_toArray, List.getElem_cons_succ, List.getElem_cons_zero, List.setIfInBounds_toArray, List.set_cons_zero, List.set_cons_succ])
    refine takeF (i := 6) (v := ?_) rfl (by kernel_rfl) (fun _ _ _ h => h) (Or.inl ⟨by kernel_rfl, ?_⟩) (by assumption) ?_; rotate_left; (focus (intro w _; go_simp; (try with_reducible rfl); done)); (try simp only [Act.put, List.getElem_toArray, List.getElem_cons_succ, List.getElem_cons_zero, List.setIfInBounds_toArray, List.set_cons_zero, List.set_cons_succ])
    refine takeF (i := 7) (v := ?_) rfl (by kernel_rfl) (fun _ _ _ h => h) (Or.inl ⟨by kernel_rfl, ?_⟩) (by assumption) ?_; rotate_left; (focus (intro w _; go_simp; (try with_reducible rfl); done)); (try simp only [Act.put, List.getElem_toArray, List.getElem_cons_succ, List.getElem_cons_zero, List.setIfInBounds_toArray, List.set_cons_zero, List.set_cons_succ])
    refine takeH (i := 8) (v := ?_) rfl (by kernel_rfl) (fun _ _ _ h => h) (Or.inl ⟨by kernel_rfl, ?_⟩) (by assumption) ?_; rotate_left; (focus (intro w hSw; (try dsimp only at hSw); go_simp; (try with_reducible rfl); done)); (try simp only [Act.put, List.getElem_toArray, List.getElem_cons_succ, List.getElem_cons_zero, List.setIfInBounds_toArray, List.set_cons_zero, List.set_cons_succ])
    refine takeF (i := 11) (v := ?_) rfl (by kernel_rfl) (fun _ _ _ h => h) (Or.inl ⟨by kernel_rfl, ?_⟩) (by assumption) ?_; rotate_left; (focus (intro w _; go_simp; (try with_reducible rfl); done)); (try simp only [Act.put, List.getElem_toArray, List.getElem_cons_succ, List.getElem_cons_zero, List.setIfInBounds_toArray, List.set_cons_zero, List.set_cons_succ])
    refine takeF (i := 12) (v := ?_) rfl (by kernel_rfl) (fun _ _ _ h => h) (Or.inl ⟨by kernel_rfl, ?_⟩) (by assumption) ?_; rotate_left; (focus (intro w _; go_simp; (try with_reducible rfl); done)); (try simp only [Act.put, List.getElem_toArray, List.getElem_cons_succ, List.getElem_cons_zero, List.setIfInBounds_toArray, List.set_cons_zero, List.set_cons_succ])
    refine takeF (i := 13) (v := ?_) rfl (by kernel_rfl) (fun _ _ _ h => h) (Or.inl ⟨by kernel_rfl, ?_⟩) (by assumption) ?_; rotate_left; (focus (intro w _; go_simp; (try with_reducible rfl); done)); (try simp only [Act.put, List.getElem_toArray, List.getElem_cons_succ, List.getElem_cons_zero, List.setIfInBounds_toArray, List.set_cons_zero, List.set_cons_succ])
    obtain ⟨A2, hA2⟩ : ∃ A2, (if co = k then Ao else Option.map (fun x => x.add (k * 4)) Ao) = A2 := ⟨_, rfl⟩
    rw [hA2] at HRt ⊢
    clear hA2
    refine readyS (rs := [0, 9]) (by kernel_rfl) (by simp) ?_
    refine ReadyS.consH rfl (fun K hK => ?_) (ReadyS.consH rfl (fun K hK => ?_) ReadyS.nil)
    (try simp only [List.getElem_toArray, List.getElem_cons_succ, List.getElem_cons_zero])
    · go_simp
      have H0' := Lib.hid (own_lower (own_zero Wc 56 4) Hb.out.size)
      have Hb' := Lib.hid (below_alloc Hb.out (.cells #[] 56))
      clear hHeld0
      refine hK.out _ _ (HQ.out _ Hb'.out) (fun hHeld0 => ?_)
      clear hK K
      clear Hb
      have H0 := H0'; have Hb := Hb'; clear H0' Hb'
      generalize (World.alloc Wc _) = Wd at *
      obtain ⟨Wc, rfl⟩ : ∃ W, W = Wd := ⟨_, rfl⟩
      (try simp only [Act.put, List.getElem_toArray, List.getElem_cons_succ, List.getElem_cons_zero, List.setIfInBounds_toArray, List.set_cons_zero, List.set_cons_succ])
      refine readyS (rs := [4, 9]) (by kernel_rfl) (by simp) ?_
      refine ReadyS.consH rfl (fun K hK => ?_) (ReadyS.consH rfl (fun K hK => ?_) ReadyS.nil)
      (try simp only [List.getElem_toArray, List.getElem_cons_succ, List.getElem_cons_zero])
      · rw [if_pos (by kernel_rfl)]
        refine wp_app _ _ 49 (by rfl) w3.heap.size 56 (.agg #[.int .i64 0, .int .u32 0, .int .u32 0, .string ⟨#[]⟩]) 4 32 Try.underlying49 info_pt4 rfl (by decide) (by decide) _ 0 [] (by rfl) Ao k co ((own.take k).flatMap PtS.cells) (by rfl) H0.out (by rw [flat_len PtS.cells_len, List.length_take, Nat.min_eq_left hk]) (HRt.out _ Hb.out).1 (flat_one PtS.cells_one _) (by omega) Hb.out.size ?_
        intro A4 c4 Wd hown hgrow hat
        rw [Nat.zero_add] at hown hat ⊢
        rw [List.nil_append] at hown
        have Hb' := Lib.hid (below_grown Hb.out hgrow (fun k e => own_base H0.out k e))
        have H4 := Lib.hid hown
        clear hown hgrow hat
        clear hHeld0
        refine hK.out _ _ (HQ.out _ Hb'.out) (fun hHeld0 => ?_)
        clear hK K
        clear Hb H0
        have Hb := Hb'; clear Hb'
        obtain ⟨Wc, rfl⟩ : ∃ W, W = Wd := ⟨_, rfl⟩
        (try simp only [Act.put, List.getElem_toArray, List.getElem_cons_succ, List.getElem_cons_zero, List.setIfInBounds_toArray, List.set_cons_zero, List.set_cons_succ])
        refine readyS (rs := [9]) (by kernel_rfl) (by simp) ?_
        refine ReadyS.consH rfl (fun K hK => ?_) ReadyS.nil
        (try simp only [List.getElem_toArray, List.getElem_cons_succ, List.getElem_cons_zero])
        go_simp
        have H9' := Lib.hid (rd_new Wc #[.int .i64 x.id, .int .u32 (x.x : Nat), .int .u32 (x.y : Nat), .string x.d] 56 ([x].flatMap PtS.cells) rfl)
        have Hb' := Lib.hid (below_alloc Hb.out (.cells #[.int .i64 x.id, .int .u32 (x.x : Nat), .int .u32 (x.y : Nat), .string x.d] 56))
        have H4' := Lib.hid (own_below H4.out (below_alloc1 Wc (.cells #[.int .i64 x.id, .int .u32 (x.x : Nat), .int .u32 (x.y : Nat), .string x.d] 56)))
        clear hHeld0
        refine hK.out _ _ (HQ.out _ Hb'.out) (fun hHeld0 => ?_)
        clear hK K
        clear Hb H4
        have H9 := H9'; have Hb := Hb'; clear H9' Hb'
        have H4 := H4'; clear H4'
        generalize (World.alloc Wc _) = Wd at *
        obtain ⟨Wc, rfl⟩ : ∃ W, W = Wd := ⟨_, rfl⟩
        (try simp only [Act.put, List.getElem_toArray, List.getElem_cons_succ, List.getElem_cons_zero, List.setIfInBounds_toArray, List.set_cons_zero, List.set_cons_succ])
        refine readyS (rs := [10]) (by kernel_rfl) (by simp) ?_
        refine ReadyS.consH rfl (fun K hK => ?_) ReadyS.nil
        (try simp only [List.getElem_toArray, List.getElem_cons_succ, List.getElem_cons_zero])
        rw [if_pos (by kernel_rfl)]
        refine wp_app _ _ 49 (by rfl) w3.heap.size 56 (.agg #[.int .i64 0, .int .u32 0, .int .u32 0, .string ⟨#[]⟩]) 4 32 Try.underlying49 info_pt4 rfl (by decide) (by decide) (.slice A4 k c4) k ((own.take k).flatMap PtS.cells) (by rfl) _ 1 1 ([x].flatMap PtS.cells) (by rfl) H4.out rfl H9.out (flat_one PtS.cells_one _) (by omega) Hb.out.size ?_
        intro A10 c10 Wd hown hgrow hat
        have Hb' := Lib.hid (below_grown Hb.out hgrow (fun k e => own_base H4.out k e))
        have H10 := Lib.hid hown
        clear hown hgrow hat
        clear hHeld0
        refine hK.out _ _ (HQ.out _ Hb'.out) (fun hHeld0 => ?_)
        clear hK K
        clear Hb H4 H9
        have Hb := Hb'; clear Hb'
        obtain ⟨Wc, rfl⟩ : ∃ W, W = Wd := ⟨_, rfl⟩
        (try simp only [Act.put, List.getElem_toArray, List.getElem_cons_succ, List.getElem_cons_zero, List.setIfInBounds_toArray, List.set_cons_zero, List.set_cons_succ])
        refine readyS (rs := [14]) (by kernel_rfl) (by simp) ?_
        refine ReadyS.consH rfl (fun K hK => ?_) ReadyS.nil
        (try simp only [List.getElem_toArray, List.getElem_cons_succ, List.getElem_cons_zero])
        rw [if_pos (by kernel_rfl)]
        refine wp_app _ _ 49 (by rfl) w3.heap.size 56 (.agg #[.int .i64 0, .int .u32 0, .int .u32 0, .string ⟨#[]⟩]) 4 32 Try.underlying49 info_pt4 rfl (by decide) (by decide) (.slice A10 (k + 1) c10) (k + 1) ((own.take k).flatMap PtS.cells ++ [x].flatMap PtS.cells) (by rfl) A2 (i - k) (co - k) ((own.drop k).flatMap PtS.cells) (by rfl) H10.out (by rw [flat_len PtS.cells_len, List.length_drop, HOl.out]) (HRt.out _ Hb.out).2 (flat_one PtS.cells_one _) (by omega) Hb.out.size ?_
        intro A14 c14 Wd hown hgrow hat
        have Hb' := Lib.hid (below_grown Hb.out hgrow (fun k e => own_base H10.out k e))
        have H14 := Lib.hid hown
        clear hown hgrow hat
        clear hHeld0
        refine hK.out _ _ (HQ.out _ Hb'.out) (fun hHeld0 => ?_)
        clear hK K
        clear Hb H10
        have Hb := Hb'; clear Hb'
        obtain ⟨Wc, rfl⟩ : ∃ W, W = Wd := ⟨_, rfl⟩
        (try simp only [Act.put, List.getElem_toArray, List.getElem_cons_succ, List.getElem_cons_zero, List.setIfInBounds_toArray, List.set_cons_zero, List.set_cons_succ])
        refine takeF (i := 15) (v := ?_) rfl (by kernel_rfl) (fun _ _ _ h => h) (Or.inl ⟨by kernel_rfl, ?_⟩) (by assumption) ?_; rotate_left; (focus (intro w _; go_simp; (try with_reducible rfl); done)); (try simp only [Act.put, List.getElem_toArray, List.getElem_cons_succ, List.getElem_cons_zero, List.setIfInBounds_toArray, List.set_cons_zero, List.set_cons_succ])
        have HE := Lib.hid (HFin2.out _ _ _ _ (HFin.out _ _ _ H14.out) Hb.out)
        clear hHeld0
        refine doneS (by kernel_rfl) ?_ _
        go_wp2
        exact ⟨⟨i + 1, A14, c14, by go_num, by omega, congrArg (fun n => Value.slice A14 n c14) (by omega), HE.out.2.1, HE.out.2.2.1, HE.out.2.2.2⟩, by simp [intOf]; omega⟩
      · go_simp
        have H9' := Lib.hid (rd_new Wc #[.int .i64 x.id, .int .u32 (x.x : Nat), .int .u32 (x.y : Nat), .string x.d] 56 ([x].flatMap PtS.cells) rfl)
        have Hb' := Lib.hid (below_alloc Hb.out (.cells #[.int .i64 x.id, .int .u32 (x.x : Nat), .int .u32 (x.y : Nat), .string x.d] 56))
        have Hne := Lib.hid (own_lt H0.out _ rfl)
        have H0' := Lib.hid (own_below H0.out (below_alloc1 Wc (.cells #[.int .i64 x.id, .int .u32 (x.x : Nat), .int .u32 (x.y : Nat), .string x.d] 56)))
        clear hHeld0
        refine hK.out _ _ (HQ.out _ Hb'.out) (fun hHeld0 => ?_)
        clear hK K
        clear Hb H0
        have H9 := H9'; have Hb := Hb'; clear H9' Hb'
        have H0 := H0'; clear H0'
        generalize (World.alloc Wc _) = Wd at *
        obtain ⟨Wc, rfl⟩ : ∃ W, W = Wd := ⟨_, rfl⟩
        (try simp only [Act.put, List.getElem_toArray, List.getElem_cons_succ, List.getElem_cons_zero, List.setIfInBounds_toArray, List.set_cons_zero, List.set_cons_succ])
        refine readyS (rs := [4]) (by kernel_rfl) (by simp) ?_
        refine ReadyS.consH rfl (fun K hK => ?_) ReadyS.nil
        (try simp only [List.getElem_toArray, List.getElem_cons_succ, List.getElem_cons_zero])
        rw [if_pos (by kernel_rfl)]
        refine wp_app _ _ 49 (by rfl) w3.heap.size 56 (.agg #[.int .i64 0, .int .u32 0, .int .u32 0, .string ⟨#[]⟩]) 4 32 Try.underlying49 info_pt4 rfl (by decide) (by decide) _ 0 [] (by rfl) Ao k co ((own.take k).flatMap PtS.cells) (by rfl) H0.out (by rw [flat_len PtS.cells_len, List.length_take, Nat.min_eq_left hk]) (HRt.out _ Hb.out).1 (flat_one PtS.cells_one _) (by omega) Hb.out.size ?_
        intro A4 c4 Wd hown hgrow hat
        rw [Nat.zero_add] at hown hat ⊢
        rw [List.nil_append] at hown
        have Hb' := Lib.hid (below_grown Hb.out hgrow (fun k e => own_base H0.out k e))
        have H4 := Lib.hid hown
        have H9' := Lib.hid (rd_grown H9.out hgrow (fun ad e hk => by cases e; have h1 := Option.some.inj hk; have h2 := Hne.out; (try dsimp only at h1 h2); omega))
        clear hown hgrow hat
        clear hHeld0
        refine hK.out _ _ (HQ.out _ Hb'.out) (fun hHeld0 => ?_)
        clear hK K
        clear Hb H0 H9 Hne
        have Hb := Hb'; clear Hb'
        have H9 := H9'; clear H9'
        obtain ⟨Wc, rfl⟩ : ∃ W, W = Wd := ⟨_, rfl⟩
        (try simp only [Act.put, List.getElem_toArray, List.getElem_cons_succ, List.getElem_cons_zero, List.setIfInBounds_toArray, List.set_cons_zero, List.set_cons_succ])
        refine readyS (rs := [10]) (by kernel_rfl) (by simp) ?_
        refine ReadyS.consH rfl (fun K hK => ?_) ReadyS.nil
        (try simp only [List.getElem_toArray, List.getElem_cons_succ, List.getElem_cons_zero])
        rw [if_pos (by kernel_rfl)]
        refine wp_app _ _ 49 (by rfl) w3.heap.size 56 (.agg #[.int .i64 0, .int .u32 0, .int .u32 0, .string ⟨#[]⟩]) 4 32 Try.underlying49 info_pt4 rfl (by decide) (by decide) (.slice A4 k c4) k ((own.take k).flatMap PtS.cells) (by rfl) _ 1 1 ([x].flatMap PtS.cells) (by rfl) H4.out rfl H9.out (flat_one PtS.cells_one _) (by omega) Hb.out.size ?_
        intro A10 c10 Wd hown hgrow hat
        have Hb' := Lib.hid (below_grown Hb.out hgrow (fun k e => own_base H4.out k e))
        have H10 := Lib.hid hown
        clear hown hgrow hat
        clear hHeld0
        refine hK.out _ _ (HQ.out _ Hb'.out) (fun hHeld0 => ?_)
        clear hK K
        clear Hb H4 H9
        have Hb := Hb'; clear Hb'
        obtain ⟨Wc, rfl⟩ : ∃ W, W = Wd := ⟨_, rfl⟩
        (try simp only [Act.put, List.getElem_toArray, List.getElem_cons_succ, List.getElem_cons_zero, List.setIfInBounds_toArray, List.set_cons_zero, List.set_cons_succ])
        refine readyS (rs := [14]) (by kernel_rfl) (by simp) ?_
        refine ReadyS.consH rfl (fun K hK => ?_) ReadyS.nil
        (try simp only [List.getElem_toArray, List.getElem_cons_succ, List.getElem_cons_zero])
        rw [if_pos (by kernel_rfl)]
        refine wp_app _ _ 49 (by rfl) w3.heap.size 56 (.agg #[.int .i64 0, .int .u32 0, .int .u32 0, .string ⟨#[]⟩]) 4 32 Try.underlying49 info_pt4 rfl (by decide) (by decide) (.slice A10 (k + 1) c10) (k + 1) ((own.take k).flatMap PtS.cells ++ [x].flatMap PtS.cells) (by rfl) A2 (i - k) (co - k) ((own.drop k).flatMap PtS.cells) (by rfl) H10.out (by rw [flat_len PtS.cells_len, List.length_drop, HOl.out]) (HRt.out _ Hb.out).2 (flat_one PtS.cells_one _) (by omega) Hb.out.size ?_
        intro A14 c14 Wd hown hgrow hat
        have Hb' := Lib.hid (below_grown Hb.out hgrow (fun k e => own_base H10.out k e))
        have H14 := Lib.hid hown
        clear hown hgrow hat
        clear hHeld0
        refine hK.out _ _ (HQ.out _ Hb'.out) (fun hHeld0 => ?_)
        clear hK K
        clear Hb H10
        have Hb := Hb'; clear Hb'
        obtain ⟨Wc, rfl⟩ : ∃ W, W = Wd := ⟨_, rfl⟩
        (try simp only [Act.put, List.getElem_toArray, List.getElem_cons_succ, List.getElem_cons_zero, List.setIfInBounds_toArray, List.set_cons_zero, List.set_cons_succ])
        refine takeF (i := 15) (v := ?_) rfl (by kernel_rfl) (fun _ _ _ h => h) (Or.inl ⟨by kernel_rfl, ?_⟩) (by assumption) ?_; rotate_left; (focus (intro w _; go_simp; (try with_reducible rfl); done)); (try simp only [Act.put, List.getElem_toArray, List.getElem_cons_succ, List.getElem_cons_zero, List.setIfInBounds_toArray, List.set_cons_zero, List.set_cons_succ])
        have HE := Lib.hid (HFin2.out _ _ _ _ (HFin.out _ _ _ H14.out) Hb.out)
        clear hHeld0
        refine doneS (by kernel_rfl) ?_ _
        go_wp2
        exact ⟨⟨i + 1, A14, c14, by go_num, by omega, congrArg (fun n => Value.slice A14 n c14) (by omega), HE.out.2.1, HE.out.2.2.1, HE.out.2.2.2⟩, by simp [intOf]; omega⟩
    · go_simp
      have H9' := Lib.hid (rd_new Wc #[.int .i64 x.id, .int .u32 (x.x : Nat), .int .u32 (x.y : Nat), .string x.d] 56 ([x].flatMap PtS.cells) rfl)
      have Hb' := Lib.hid (below_alloc Hb.out (.cells #[.int .i64 x.id, .int .u32 (x.x : Nat), .int .u32 (x.y : Nat), .string x.d] 56))
      clear hHeld0
      refine hK.out _ _ (HQ.out _ Hb'.out) (fun hHeld0 => ?_)
      clear hK K
      clear Hb
      have H9 := H9'; have Hb := Hb'; clear H9' Hb'
      generalize (World.alloc Wc _) = Wd at *
      obtain ⟨Wc, rfl⟩ : ∃ W, W = Wd := ⟨_, rfl⟩
      (try simp only [Act.put, List.getElem_toArray, List.getElem_cons_succ, List.getElem_cons_zero, List.setIfInBounds_toArray, List.set_cons_zero, List.set_cons_succ])
      refine readyS (rs := [0]) (by kernel_rfl) (by simp) ?_
      refine ReadyS.consH rfl (fun K hK => ?_) ReadyS.nil
      (try simp only [List.getElem_toArray, List.getElem_cons_succ, List.getElem_cons_zero])
      go_simp
      have H0' := Lib.hid (own_lower (own_zero Wc 56 4) Hb.out.size)
      have Hb' := Lib.hid (below_alloc Hb.out (.cells #[] 56))
      have Hne := Lib.hid (H9.out.lt (by simp [PtS.cells]))
      have H9' := Lib.hid (H9.out.below (below_alloc1 Wc (.cells #[] 56)))
      clear hHeld0
      refine hK.out _ _ (HQ.out _ Hb'.out) (fun hHeld0 => ?_)
      clear hK K
      clear Hb H9
      have H0 := H0'; have Hb := Hb'; clear H0' Hb'
      have H9 := H9'; clear H9'
      generalize (World.alloc Wc _) = Wd at *
      obtain ⟨Wc, rfl⟩ : ∃ W, W = Wd := ⟨_, rfl⟩
      (try simp only [Act.put, List.getElem_toArray, List.getElem_cons_succ, List.getElem_cons_zero, List.setIfInBounds_toArray, List.set_cons_zero, List.set_cons_succ])
      refine readyS (rs := [4]) (by kernel_rfl) (by simp) ?_
      refine ReadyS.consH rfl (fun K hK => ?_) ReadyS.nil
      (try simp only [List.getElem_toArray, List.getElem_cons_succ, List.getElem_cons_zero])
      rw [if_pos (by kernel_rfl)]
      refine wp_app _ _ 49 (by rfl) w3.heap.size 56 (.agg #[.int .i64 0, .int .u32 0, .int .u32 0, .string ⟨#[]⟩]) 4 32 Try.underlying49 info_pt4 rfl (by decide) (by decide) _ 0 [] (by rfl) Ao k co ((own.take k).flatMap PtS.cells) (by rfl) H0.out (by rw [flat_len PtS.cells_len, List.length_take, Nat.min_eq_left hk]) (HRt.out _ Hb.out).1 (flat_one PtS.cells_one _) (by omega) Hb.out.size ?_
      intro A4 c4 Wd hown hgrow hat
      rw [Nat.zero_add] at hown hat ⊢
      rw [List.nil_append] at hown
      have Hb' := Lib.hid (below_grown Hb.out hgrow (fun k e => own_base H0.out k e))
      have H4 := Lib.hid hown
      have H9' := Lib.hid (rd_grown H9.out hgrow (fun ad e hk => by cases e; have h1 := Option.some.inj hk; have h2 := Hne.out; (try dsimp only at h1 h2); omega))
      clear hown hgrow hat
      clear hHeld0
      refine hK.out _ _ (HQ.out _ Hb'.out) (fun hHeld0 => ?_)
      clear hK K
      clear Hb H0 H9 Hne
      have Hb := Hb'; clear Hb'
      have H9 := H9'; clear H9'
      obtain ⟨Wc, rfl⟩ : ∃ W, W = Wd := ⟨_, rfl⟩
      (try simp only [Act.put, List.getElem_toArray, List.getElem_cons_succ, List.getElem_cons_zero, List.setIfInBounds_toArray, List.set_cons_zero, List.set_cons_succ])
      refine readyS (rs := [10]) (by kernel_rfl) (by simp) ?_
      refine ReadyS.consH rfl (fun K hK => ?_) ReadyS.nil
      (try simp only [List.getElem_toArray, List.getElem_cons_succ, List.getElem_cons_zero])
      rw [if_pos (by kernel_rfl)]
      refine wp_app _ _ 49 (by rfl) w3.heap.size 56 (.agg #[.int .i64 0, .int .u32 0, .int .u32 0, .string ⟨#[]⟩]) 4 32 Try.underlying49 info_pt4 rfl (by decide) (by decide) (.slice A4 k c4) k ((own.take k).flatMap PtS.cells) (by rfl) _ 1 1 ([x].flatMap PtS.cells) (by rfl) H4.out rfl H9.out (flat_one PtS.cells_one _) (by omega) Hb.out.size ?_
      intro A10 c10 Wd hown hgrow hat
      have Hb' := Lib.hid (below_grown Hb.out hgrow (fun k e => own_base H4.out k e))
      have H10 := Lib.hid hown
      clear hown hgrow hat
      clear hHeld0
      refine hK.out _ _ (HQ.out _ Hb'.out) (fun hHeld0 => ?_)
      clear hK K
      clear Hb H4 H9
      have Hb := Hb'; clear Hb'
      obtain ⟨Wc, rfl⟩ : ∃ W, W = Wd := ⟨_, rfl⟩
      (try simp only [Act.put, List.getElem_toArray, List.getElem_cons_succ, List.getElem_cons_zero, List.setIfInBounds_toArray, List.set_cons_zero, List.set_cons_succ])
      refine readyS (rs := [14]) (by kernel_rfl) (by simp) ?_
      refine ReadyS.consH rfl (fun K hK => ?_) ReadyS.nil
      (try simp only [List.getElem_toArray, List.getElem_cons_succ, List.getElem_cons_zero])
      rw [if_pos (by kernel_rfl)]
      refine wp_app _ _ 49 (by rfl) w3.heap.size 56 (.agg #[.int .i64 0, .int .u32 0, .int .u32 0, .string ⟨#[]⟩]) 4 32 Try.underlying49 info_pt4 rfl (by decide) (by decide) (.slice A10 (k + 1) c10) (k + 1) ((own.take k).flatMap PtS.cells ++ [x].flatMap PtS.cells) (by rfl) A2 (i - k) (co - k) ((own.drop k).flatMap PtS.cells) (by rfl) H10.out (by rw [flat_len PtS.cells_len, List.length_drop, HOl.out]) (HRt.out _ Hb.out).2 (flat_one PtS.cells_one _) (by omega) Hb.out.size ?_
      intro A14 c14 Wd hown hgrow hat
      have Hb' := Lib.hid (below_grown Hb.out hgrow (fun k e => own_base H10.out k e))
      have H14 := Lib.hid hown
      clear hown hgrow hat
      clear hHeld0
      refine hK.out _ _ (HQ.out _ Hb'.out) (fun hHeld0 => ?_)
      clear hK K
      clear Hb H10
      have Hb := Hb'; clear Hb'
      obtain ⟨Wc, rfl⟩ : ∃ W, W = Wd := ⟨_, rfl⟩
      (try simp only [Act.put, List.getElem_toArray, List.getElem_cons_succ, List.getElem_cons_zero, List.setIfInBounds_toArray, List.set_cons_zero, List.set_cons_succ])
      refine takeF (i := 15) (v := ?_) rfl (by kernel_rfl) (fun _ _ _ h => h) (Or.inl ⟨by kernel_rfl, ?_⟩) (by assumption) ?_; rotate_left; (focus (intro w _; go_simp; (try with_reducible rfl); done)); (try simp only [Act.put, List.getElem_toArray, List.getElem_cons_succ, List.getElem_cons_zero, List.setIfInBounds_toArray, List.set_cons_zero, List.set_cons_succ])
      have HE := Lib.hid (HFin2.out _ _ _ _ (HFin.out _ _ _ H14.out) Hb.out)
      clear hHeld0
      refine doneS (by kernel_rfl) ?_ _
      go_wp2
      exact ⟨⟨i + 1, A14, c14, by go_num, by omega, congrArg (fun n => Value.slice A14 n c14) (by omega), HE.out.2.1, HE.out.2.2.1, HE.out.2.2.2⟩, by simp [intOf]; omega⟩
  · obtain rfl : i = l.length := by omega
    have d : decide (l.length < l.length) = false := decide_eq_false (by omega)
    have di : decide ((l.length : Int) < l.length) = false := decide_eq_false (by omega)
    have HW : Hid (w3.ownsRow w.heap.size 56 4 (.slice Ao l.length co) l.length ((byId l).flatMap PtS.cells)) := Lib.hid (by have := HO.out; rw [List.take_length] at this; exact this)
    clear HO
    go_wp2
    go_ret
    exact ⟨_, rfl, HW.out, HBr.out⟩
end Go.Proofs.Ytdomngpkahgoiaa.Md
