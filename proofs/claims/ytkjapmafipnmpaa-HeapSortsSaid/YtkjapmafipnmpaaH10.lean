/- The walk over croftlaw21.HeapRuns. -/
import Derived.Test.YtkjapmafipnmpaaH9
import Derived.Deep.CutBlock
namespace Go.Proofs.Ytkjapmafipnmpaa.Hp
open Go.RowKit Lt Rg HpL
set_option linter.unusedVariables false
set_option linter.unusedSimpArgs false
abbrev IR (w : World) (v : Value) (l : List ItS) : Prop := SRd 4 ItS.cells w v l
abbrev BR (w : World) (v : Value) (l : List Bool) : Prop := SRd 1 (fun b => [Value.bool b]) w v l
/-- What the law holds at a round's head: its own list rises, and has what the heap has. -/
def HR (W0 W : World) (p : Nat) (vo : Value) (own : List ItS) : Prop :=
  ∃ v l, HAt W W0.heap.size p v l ∧ Hp ItS.Lt l ∧ own.Perm l ∧ Ris ItS.Lt own ∧ IR W vo own ∧ (∀ k, vo.ownBlock = some k → W0.heap.size ≤ k ∧ k < W.heap.size ∧ k ≠ p ∧ v.ownBlock ≠ some k) ∧ W0.heap.size ≤ p ∧ Below W0.heap.size W0 W
/-- The same while all is popped. -/
def HR2 (W0 W : World) (p : Nat) (vo : Value) (own : List ItS) (j : Nat) : Prop :=
  ∃ v l, HAt W W0.heap.size p v l ∧ Hp ItS.Lt l ∧ (own.drop j).Perm l ∧ Ris ItS.Lt own ∧ IR W vo own ∧ (∀ k, vo.ownBlock = some k → W0.heap.size ≤ k ∧ k < W.heap.size ∧ k ≠ p ∧ v.ownBlock ≠ some k) ∧ W0.heap.size ≤ p ∧ Below W0.heap.size W0 W
theorem ir_at {W : World} {A : Option Addr} {n c : Nat} {l : List ItS} (h : IR W (.slice A n c) l) {k : Nat} (hk : k < l.length) :
    ∃ g o, A = some ⟨g, o, none⟩ ∧ (W.cell? ⟨g, o + k * 4, none⟩ = some (.int .u64 (l[k].hi : Nat)) ∧ W.cell? ⟨g, o + k * 4 + 1, none⟩ = some (.int .u64 (l[k].lo : Nat)) ∧ W.cell? ⟨g, o + k * 4 + 2, none⟩ = some (.int .i64 l[k].od) ∧ W.cell? ⟨g, o + k * 4 + 3, none⟩ = some (.int .i64 l[k].id)) := by
  obtain ⟨g, o, e, _, ci⟩ := SRd.get h ItS.cells_len (by decide) hk
  refine ⟨g, o, e, ?_, ?_, ?_, ?_⟩
  · simpa [ItS.cells] using ci 0 (by decide)
  · simpa [ItS.cells] using ci 1 (by decide)
  · simpa [ItS.cells] using ci 2 (by decide)
  · simpa [ItS.cells] using ci 3 (by decide)
/-- How a row that is only read outlives a heap's calls. -/
theorem ir_to {W W' : World} {p : Nat} {v v' vo : Value} {own : List ItS} (h : IR W vo own) (ht : HpTo p v W W' v') (hn : ∀ k, vo.ownBlock = some k → k ≠ p ∧ v.ownBlock ≠ some k) : IR W' vo own := by
  obtain ⟨A, c, rfl, hc, hr⟩ := h
  exact ⟨A, c, rfl, hc, hr.fr ht.1 (fun ad e hk => by
    subst e
    have := hn ad.block rfl
    rcases hk with hk | hk
    · exact this.1 hk
    · exact this.2 hk)⟩
theorem ir_parts {W : World} {A : Option Addr} {n c : Nat} {own : List ItS} (h : IR W (.slice A n c) own) {k : Nat} (hk : k ≤ own.length) :
    Rd W A ((own.take k).flatMap ItS.cells) ∧ Rd W (if c = k then A else Option.map (fun x => x.add (k * 4)) A) ((own.drop k).flatMap ItS.cells) := by
  have hl := SRd.len h
  obtain ⟨A1, c1, e1, _, h1⟩ := SRd.take h ItS.cells_len hk c (by omega)
  obtain ⟨A2, c2, e2, _, h2⟩ := SRd.drop h ItS.cells_len hk c (by omega)
  injection e1 with e1 _ _
  injection e2 with e2 _ _
  subst e1 e2
  refine ⟨h1, ?_⟩
  split
  · rw [List.drop_of_length_le (by omega)]; exact Rd.nil _ _
  · exact h2
theorem neqI (x y : ItS) (w : World) : (binOp .neq 33 (iv4 x) (iv4 y)).run Try.prog w = .ok (.bool (!((((x.hi : Int) == (y.hi : Int)) && ((x.lo : Int) == (y.lo : Int))) && ((x.od == y.od) && (x.id == y.id))))) w := by
  refine neq_of (eqs_of Try.underlying33 (by kernel_rfl) ?_)
  refine eqf_cons (by rfl) (by go_simp; rfl) (by go_simp; rfl) ?_ ?_
  · refine eqs_of Try.underlying31 (by kernel_rfl) ?_
    refine eqf_cons (by rfl) (by go_simp; rfl) (by go_simp; rfl) (by go_simp) ?_
    exact eqf_last (by rfl) (by go_simp; rfl) (by go_simp; rfl) (by go_simp)
  · refine eqf_cons (by rfl) (by go_simp; rfl) (by go_simp; rfl) (by go_simp) ?_
    exact eqf_last (by rfl) (by go_simp; rfl) (by go_simp; rfl) (by go_simp)
theorem neqI_f (x : ItS) (w : World) : (binOp .neq 33 (iv4 x) (iv4 x)).run Try.prog w = .ok (.bool false) w := by rw [neqI]; simp
theorem rd_grown {W W' : World} {A : Option Addr} {xs : List Value} {r : Option Nat} (h : Rd W A xs) (hg : W.grownBy W' r) (hn : ∀ ad, A = some ad → r ≠ some ad.block) : Rd W' A xs :=
  h.fr ((Fr.refl (fun k => r = some k) W).grown hg (fun k e _ => e)) hn
theorem blk_cut (A : Option Addr) (n c m d k : Nat) : (Value.slice (if c = k then A else Option.map (fun x => x.add (k * 4)) A) m d).ownBlock = (Value.slice A n c).ownBlock := by
  cases A with
  | none => split <;> rfl
  | some a =>
    split
    · rfl
    · show some ((a.add (k * 4)).block) = some a.block
      rw [add_block]
set_option maxHeartbeats 8000000 in
set_option maxRecDepth 100000 in
theorem hruns_walk (v0 v1 : Value) (l : List ItS) (pl : List Bool) (w : World) (h0 : IR w v0 l) (h1 : BR w v1 pl) (hl : l.length ≤ 140737488355328) (hpl : pl.length ≤ 140737488355328) :
    Calls Try.prog 3 #[v0, v1] w fun e w' => e = .returned (.bool true) ∧ Below w.heap.size w w' := by
  obtain ⟨A0, c0, rfl, hc0, _⟩ := id h0
  obtain ⟨A1, c1, rfl, hc1, _⟩ := id h1
  have HI := Lib.hid (And.intro h0 h1)
  clear h0 h1
  go_enter Try.func3, Try.ntmps3
  go_wp2_with fail
  (with_reducible refine (alive_ok _).mono ?_); rintro e w1 ⟨rfl, hb⟩
  have hB1 := Lib.hid hb
  have q1 := alloc_at (w := w1) (.cells #[.slice none 0 0] 27) rfl
  have hH : Hid (HR w (w1.alloc (.cells #[.slice none 0 0] 27)) w1.heap.size (.slice none 0 0) []) := Lib.hid
    ⟨_, [], ⟨q1, ⟨rfl, .inl ⟨rfl, rfl⟩⟩⟩, hp_nil, List.Perm.refl _, List.Pairwise.nil, srd_nil _ _ _, (fun k h => by cases h), hb.size, below_alloc hb _⟩
  clear hb q1
  go_wp2_with fail
  generalize hpe : w1.heap.size = p at *
  clear hpe
  generalize (World.alloc w1 _) = w2 at *
  clear hB1
  go_loopw [6, 7] (fun vo vi W => ∃ (i : Nat) (own : List ItS), vi = .int .i64 i ∧ i ≤ l.length ∧ i ≤ 60 ∧ own.length ≤ i ∧ HR w W p vo own) (fun _ vi _ => 60 - (intOf vi).toNat)
  case atStart => exact ⟨0, [], rfl, by omega, by omega, by simp, hH.out⟩
  case round =>
  obtain ⟨i, own, rfl, hil, hi60, hoi, hR⟩ := hrel
  have HRR := Lib.hid hR; clear hR hH
  by_cases hlt : i < l.length ∧ i < 60
  · obtain ⟨hlt, hlt2⟩ := hlt
    have d1 : decide (i < l.length) = true := decide_eq_true hlt
    have d2 : decide ((i : Int) < 60) = true := decide_eq_true (by omega)
    have bi : (i : Int) < l.length := by omega
    obtain ⟨v, lh, hA, hHp, hPm, hRs, hIr, hBk, hWp, hBl⟩ := HRR.out
    obtain ⟨g0, o0, rfl, hcl⟩ := ir_at (HI.out.1.below hBl) hlt
    obtain ⟨x, hx⟩ : ∃ x, l[i] = x := ⟨_, rfl⟩
    rw [hx] at hcl
    have hll := hPm.length_eq
    obtain ⟨Ao, co, rfl, hoc, _⟩ := id hIr
    have HA := Lib.hid hA; have HHp := Lib.hid hHp; have HPm := Lib.hid hPm; have HRs := Lib.hid hRs; have HIr := Lib.hid hIr; have HBk := Lib.hid hBk; have HBl := Lib.hid hBl; have HX := Lib.hid hx; have HWp := Lib.hid hWp; have HLL := Lib.hid hll
    clear hA hHp hPm hRs hIr hBk hBl hx hWp hll
    obtain ⟨_, _, _, _⟩ := id hcl
    clear hcl
    go_wp2_with fail
    (with_reducible refine (push_ok HA.out HHp.out HBl.out.size (by have := HLL.out; omega) x).mono ?_); rintro e w3 ⟨rfl, v3, l3, hA3, hHp3, hPm3, hTo3⟩
    have HA3 := Lib.hid hA3; have HHp3 := Lib.hid hHp3; have HPm3 := Lib.hid hPm3; have HTo3 := Lib.hid hTo3
    clear hA3 hHp3 hPm3 hTo3
    have HIr3 := Lib.hid (ir_to HIr.out HTo3.out (fun k hk => ⟨(HBk.out k hk).2.2.1, (HBk.out k hk).2.2.2⟩))
    have HBl3 : Hid (Below w.heap.size w w3) := Lib.hid (((Fr.of_below (S := fun k => w.heap.size ≤ k) HBl.out).trans HTo3.out.1 (fun k hk h => h.elim (fun h => by rw [h]; exact HWp.out) (fun h => own_base HA.out.2 k h))).toBelow (fun _ h => h) (Nat.le_refl _))
    have bo : (own.length : Int) ≤ 60 := by omega
    go_upto_block 2 with (fail)
    go_cut [8] (fun v8 wx => ∃ k : Nat, v8 = .int .i64 k ∧ k ≤ own.length ∧ (∀ j (hj : j < own.length), k ≤ j → ItS.Lt x own[j]) ∧ (∀ h0 : 0 < k ∧ k ≤ own.length, ¬ ItS.Lt x (own[k - 1]'(by omega))) ∧ Below w3.heap.size w3 wx)
    case first =>
      go_wp2_with fail
      go_loopw [8] (fun v8 W => ∃ k : Nat, v8 = .int .i64 k ∧ k ≤ own.length ∧ (∀ j (hj : j < own.length), k ≤ j → ItS.Lt x own[j]) ∧ Below w3.heap.size w3 W) (fun v8 _ => (intOf v8).toNat)
      case atStart => exact ⟨own.length, rfl, Nat.le_refl _, fun j hj h => by omega, Below.refl _ _⟩
      case round =>
      obtain ⟨k, rfl, hk, hkl, hb⟩ := hrel
      have HKL := Lib.hid hkl; have HB := Lib.hid hb
      clear hkl hb
      by_cases hk0 : 0 < k
      · have dk : decide ((k : Int) > 0) = true := decide_eq_true (by omega)
        obtain ⟨m, hm⟩ : ∃ m : Nat, k - 1 = m := ⟨_, rfl⟩
        have hw : IntKind.i64.wrap ((k : Int) - 1) = (m : Int) := by rw [IntWalk.i64_in _ (by omega)]; omega
        have hmo : m < own.length := by omega
        have bm : (m : Int) < own.length := by omega
        obtain ⟨g5, o5, rfl, _⟩ := ir_at HIr3.out hmo
        have HC := Lib.hid (fun W => less_ok x own[m] W)
        have HQ : Hid (∀ W' : World, Below w3.heap.size w3 W' → (W'.cell? ⟨g0, o0 + i * 4, none⟩ = some (.int .u64 (x.hi : Nat)) ∧ W'.cell? ⟨g0, o0 + i * 4 + 1, none⟩ = some (.int .u64 (x.lo : Nat)) ∧ W'.cell? ⟨g0, o0 + i * 4 + 2, none⟩ = some (.int .i64 x.od) ∧ W'.cell? ⟨g0, o0 + i * 4 + 3, none⟩ = some (.int .i64 x.id)) ∧ (W'.cell? ⟨g5, o5 + m * 4, none⟩ = some (.int .u64 (own[m].hi : Nat)) ∧ W'.cell? ⟨g5, o5 + m * 4 + 1, none⟩ = some (.int .u64 (own[m].lo : Nat)) ∧ W'.cell? ⟨g5, o5 + m * 4 + 2, none⟩ = some (.int .i64 own[m].od) ∧ W'.cell? ⟨g5, o5 + m * 4 + 3, none⟩ = some (.int .i64 own[m].id)) ∧ Below w3.heap.size w3 W') := Lib.hid (fun W' hb => by
          obtain ⟨g1, p1, e1, f1⟩ := ir_at (HI.out.1.below (below_up HBl3.out hb)) hlt
          obtain ⟨g2, p2, e2, f2⟩ := ir_at (HIr3.out.below hb) hmo
          cases e1; cases e2
          rw [HX.out] at f1
          exact ⟨f1, f2, hb⟩)
        have HYes : Hid (ItS.Lt x own[m] → ∀ j (hj : j < own.length), m ≤ j → ItS.Lt x own[j]) := Lib.hid (fun h j hj hmj => by
          rcases Nat.lt_or_ge j k with h1 | h1
          · obtain rfl : j = m := by omega
            exact h
          · exact HKL.out j hj h1)
        have HNo : Hid (¬ ItS.Lt x own[m] → ∀ h0 : 0 < k ∧ k ≤ own.length, ¬ ItS.Lt x (own[k - 1]'(Nat.lt_of_lt_of_le (Nat.sub_one_lt_of_lt h0.1) h0.2))) := Lib.hid (fun h h0 => by simpa only [hm] using h)
        have hmk : Hid (m + 1 = k) := Lib.hid (by omega)
        generalize hy : own[m] = y at *
        clear hy hm
        have HB3 := Lib.hid (below_up HB.out (below_drew1 (w := wr)))
        go_upto_region 10 with (fail)
        refine beginS (S := fun W' => (W'.cell? ⟨g0, o0 + i * 4, none⟩ = some (.int .u64 (x.hi : Nat)) ∧ W'.cell? ⟨g0, o0 + i * 4 + 1, none⟩ = some (.int .u64 (x.lo : Nat)) ∧ W'.cell? ⟨g0, o0 + i * 4 + 2, none⟩ = some (.int .i64 x.od) ∧ W'.cell? ⟨g0, o0 + i * 4 + 3, none⟩ = some (.int .i64 x.id)) ∧ (W'.cell? ⟨g5, o5 + m * 4, none⟩ = some (.int .u64 (y.hi : Nat)) ∧ W'.cell? ⟨g5, o5 + m * 4 + 1, none⟩ = some (.int .u64 (y.lo : Nat)) ∧ W'.cell? ⟨g5, o5 + m * 4 + 2, none⟩ = some (.int .i64 y.od) ∧ W'.cell? ⟨g5, o5 + m * 4 + 3, none⟩ = some (.int .i64 y.id)) ∧ Below w3.heap.size w3 W') [] (by kernel_rfl) (HQ.out _ HB3.out) (fun hHeld0 => ?_)
        generalize (World.drew wr) = W0 at *
        refine takeF (i := 0) (v := ?_) rfl (by kernel_rfl) (fun _ _ _ h => h) (Or.inl ⟨by kernel_rfl, ?_⟩) (by assumption) ?_; rotate_left; (focus (intro w _; go_simp; (try with_reducible rfl); done)); (try simp only [Act.put, List.getElem_toArray, List.getElem_cons_succ, List.getElem_cons_zero, List.setIfInBounds_toArray, List.set_cons_zero, List.set_cons_succ])
        refine takeF (i := 1) (v := ?_) rfl (by kernel_rfl) (fun _ _ _ h => h) (Or.inl ⟨by kernel_rfl, ?_⟩) (by assumption) ?_; rotate_left; (focus (intro w _; go_simp; (try with_reducible rfl); done)); (try simp only [Act.put, List.getElem_toArray, List.getElem_cons_succ, List.getElem_cons_zero, List.setIfInBounds_toArray, List.set_cons_zero, List.set_cons_succ])
        refine takeF (i := 2) (v := ?_) rfl (by kernel_rfl) (fun _ _ _ h => h) (Or.inl ⟨by kernel_rfl, ?_⟩) (by assumption) ?_; rotate_left; (focus (intro w _; go_simp; (try with_reducible rfl); done)); (try simp only [Act.put, List.getElem_toArray, List.getElem_cons_succ, List.getElem_cons_zero, List.setIfInBounds_toArray, List.set_cons_zero, List.set_cons_succ])
        refine takeF (i := 3) (v := ?_) rfl (by kernel_rfl) (fun _ _ _ h => h) (Or.inl ⟨by kernel_rfl, ?_⟩) (by assumption) ?_; rotate_left; (focus (intro w _; go_simp; (try with_reducible rfl); done)); (try simp only [Act.put, List.getElem_toArray, List.getElem_cons_succ, List.getElem_cons_zero, List.setIfInBounds_toArray, List.set_cons_zero, List.set_cons_succ])
        refine takeF (i := 4) (v := ?_) rfl (by kernel_rfl) (fun _ _ _ h => h) (Or.inl ⟨by kernel_rfl, ?_⟩) (by assumption) ?_; rotate_left; (focus (intro w _; go_simp; (try with_reducible rfl); done)); (try simp only [Act.put, List.getElem_toArray, List.getElem_cons_succ, List.getElem_cons_zero, List.setIfInBounds_toArray, List.set_cons_zero, List.set_cons_succ])
        refine takeF (i := 5) (v := ?_) rfl (by kernel_rfl) (fun _ _ _ h => h) (Or.inl ⟨by kernel_rfl, ?_⟩) (by assumption) ?_; rotate_left; (focus (intro w _; go_simp; (try with_reducible rfl); done)); (try simp only [Act.put, List.getElem_toArray, List.getElem_cons_succ, List.getElem_cons_zero, List.setIfInBounds_toArray, List.set_cons_zero, List.set_cons_succ])
        refine takeH (i := 6) (v := ?_) rfl (by kernel_rfl) (fun _ _ _ h => h) (Or.inl ⟨by kernel_rfl, ?_⟩) (by assumption) ?_; rotate_left; (focus (intro w hSw; (try dsimp only at hSw); go_simp; (try with_reducible rfl); done)); (try simp only [Act.put, List.getElem_toArray, List.getElem_cons_succ, List.getElem_cons_zero, List.setIfInBounds_toArray, List.set_cons_zero, List.set_cons_succ])
        refine takeF (i := 7) (v := ?_) rfl (by kernel_rfl) (fun _ _ _ h => h) (Or.inl ⟨by kernel_rfl, ?_⟩) (by assumption) ?_; rotate_left; (focus (intro w _; go_simp; (try with_reducible rfl); done)); (try simp only [Act.put, List.getElem_toArray, List.getElem_cons_succ, List.getElem_cons_zero, List.setIfInBounds_toArray, List.set_cons_zero, List.set_cons_succ])
        refine takeF (i := 8) (v := ?_) rfl (by kernel_rfl) (fun _ _ _ h => h) (Or.inl ⟨by kernel_rfl, ?_⟩) (by assumption) ?_; rotate_left; (focus (intro w _; go_simp; (try with_reducible rfl); done)); (try simp only [Act.put, List.getElem_toArray, List.getElem_cons_succ, List.getElem_cons_zero, List.setIfInBounds_toArray, List.set_cons_zero, List.set_cons_succ])
        refine takeF (i := 9) (v := ?_) rfl (by kernel_rfl) (fun _ _ _ h => h) (Or.inl ⟨by kernel_rfl, ?_⟩) (by assumption) ?_; rotate_left; (focus (intro w _; go_simp; (try with_reducible rfl); done)); (try simp only [Act.put, List.getElem_toArray, List.getElem_cons_succ, List.getElem_cons_zero, List.setIfInBounds_toArray, List.set_cons_zero, List.set_cons_succ])
        refine takeF (i := 10) (v := ?_) rfl (by kernel_rfl) (fun _ _ _ h => h) (Or.inl ⟨by kernel_rfl, ?_⟩) (by assumption) ?_; rotate_left; (focus (intro w _; go_simp; (try with_reducible rfl); done)); (try simp only [Act.put, List.getElem_toArray, List.getElem_cons_succ, List.getElem_cons_zero, List.setIfInBounds_toArray, List.set_cons_zero, List.set_cons_succ])
        refine takeH (i := 11) (v := ?_) rfl (by kernel_rfl) (fun _ _ _ h => h) (Or.inl ⟨by kernel_rfl, ?_⟩) (by assumption) ?_; rotate_left; (focus (intro w hSw; (try dsimp only at hSw); go_simp; (try with_reducible rfl); done)); (try simp only [Act.put, List.getElem_toArray, List.getElem_cons_succ, List.getElem_cons_zero, List.setIfInBounds_toArray, List.set_cons_zero, List.set_cons_succ])
        clear hHeld0
        refine readyS (rs := [12]) (by kernel_rfl) (by simp) ?_
        refine ReadyS.consH rfl (fun K hK => ?_) ReadyS.nil
        (try simp only [List.getElem_toArray, List.getElem_cons_succ, List.getElem_cons_zero])
        go_simp
        (with_reducible refine (HC.out _).mono ?_); rintro e W1 ⟨rfl, hb⟩
        have H1 := Lib.hid (below_up HB3.out hb); clear hb
        refine hK.out _ _ (HQ.out _ H1.out) (fun hHeld => ?_)
        clear hK K
        (try simp only [Act.put, List.getElem_toArray, List.getElem_cons_succ, List.getElem_cons_zero, List.setIfInBounds_toArray, List.set_cons_zero, List.set_cons_succ])
        refine takeF (i := 13) (v := ?_) rfl (by kernel_rfl) (fun _ _ _ h => h) (Or.inl ⟨by kernel_rfl, ?_⟩) (by assumption) ?_; rotate_left; (focus (intro w _; go_simp; (try with_reducible rfl); done)); (try simp only [Act.put, List.getElem_toArray, List.getElem_cons_succ, List.getElem_cons_zero, List.setIfInBounds_toArray, List.set_cons_zero, List.set_cons_succ])
        clear hHeld
        refine doneS (by kernel_rfl) ?_ _
        by_cases hlt3 : ItS.Lt x y
        · have HY := Lib.hid (HYes.out hlt3)
          rw [decide_eq_true hlt3]
          clear hlt3
          go_wp2
          exact ⟨⟨m, by go_num, by omega, HY.out, H1.out⟩, by have := hmk.out; simp [intOf]; omega⟩
        · have HN := Lib.hid (HNo.out hlt3)
          rw [decide_eq_false hlt3]
          clear hlt3
          go_wp2
          go_meet
          case rel => exact ⟨k, rfl, hk, HKL.out, HN.out, H1.out⟩
      · obtain rfl : k = 0 := by omega
        have HB3 := Lib.hid (below_up HB.out (below_drew1 (w := wr)))
        go_upto_region 10 with (fail)
        refine beginS (S := fun W' => True) [] (by kernel_rfl) trivial (fun hHeld0 => ?_)
        generalize (World.drew wr) = W0 at *
        refine takeF (i := 0) (v := ?_) rfl (by kernel_rfl) (fun _ _ _ h => h) (Or.inl ⟨by kernel_rfl, ?_⟩) (by assumption) ?_; rotate_left; (focus (intro w _; go_simp; (try with_reducible rfl); done)); (try simp only [Act.put, List.getElem_toArray, List.getElem_cons_succ, List.getElem_cons_zero, List.setIfInBounds_toArray, List.set_cons_zero, List.set_cons_succ])
        refine takeF (i := 1) (v := ?_) rfl (by kernel_rfl) (fun _ _ _ h => h) (Or.inl ⟨by kernel_rfl, ?_⟩) (by assumption) ?_; rotate_left; (focus (intro w _; go_simp; (try with_reducible rfl); done)); (try simp only [Act.put, List.getElem_toArray, List.getElem_cons_succ, List.getElem_cons_zero, List.setIfInBounds_toArray, List.set_cons_zero, List.set_cons_succ])
        refine takeF (i := 2) (v := ?_) rfl (by kernel_rfl) (fun _ _ _ h => h) (Or.inl ⟨by kernel_rfl, ?_⟩) (by assumption) ?_; rotate_left; (focus (intro w _; go_simp; (try with_reducible rfl); done)); (try simp only [Act.put, List.getElem_toArray, List.getElem_cons_succ, List.getElem_cons_zero, List.setIfInBounds_toArray, List.set_cons_zero, List.set_cons_succ])
        refine takeF (i := 3) (v := undef) rfl (by kernel_rfl) (fun _ _ _ h => h) (Or.inr ⟨by kernel_rfl, rfl⟩) (by assumption) ?_; (try simp only [Act.put, List.getElem_toArray, List.getElem_cons_succ, List.getElem_cons_zero, List.setIfInBounds_toArray, List.set_cons_zero, List.set_cons_succ])
        refine takeF (i := 4) (v := undef) rfl (by kernel_rfl) (fun _ _ _ h => h) (Or.inr ⟨by kernel_rfl, rfl⟩) (by assumption) ?_; (try simp only [Act.put, List.getElem_toArray, List.getElem_cons_succ, List.getElem_cons_zero, List.setIfInBounds_toArray, List.set_cons_zero, List.set_cons_succ])
        refine takeF (i := 5) (v := undef) rfl (by kernel_rfl) (fun _ _ _ h => h) (Or.inr ⟨by kernel_rfl, rfl⟩) (by assumption) ?_; (try simp only [Act.put, List.getElem_toArray, List.getElem_cons_succ, List.getElem_cons_zero, List.setIfInBounds_toArray, List.set_cons_zero, List.set_cons_succ])
        refine takeF (i := 6) (v := undef) rfl (by kernel_rfl) (fun _ _ _ h => h) (Or.inr ⟨by kernel_rfl, rfl⟩) (by assumption) ?_; (try simp only [Act.put, List.getElem_toArray, List.getElem_cons_succ, List.getElem_cons_zero, List.setIfInBounds_toArray, List.set_cons_zero, List.set_cons_succ])
        refine takeF (i := 7) (v := undef) rfl (by kernel_rfl) (fun _ _ _ h => h) (Or.inr ⟨by kernel_rfl, rfl⟩) (by assumption) ?_; (try simp only [Act.put, List.getElem_toArray, List.getElem_cons_succ, List.getElem_cons_zero, List.setIfInBounds_toArray, List.set_cons_zero, List.set_cons_succ])
        refine takeF (i := 8) (v := undef) rfl (by kernel_rfl) (fun _ _ _ h => h) (Or.inr ⟨by kernel_rfl, rfl⟩) (by assumption) ?_; (try simp only [Act.put, List.getElem_toArray, List.getElem_cons_succ, List.getElem_cons_zero, List.setIfInBounds_toArray, List.set_cons_zero, List.set_cons_succ])
        refine takeF (i := 9) (v := undef) rfl (by kernel_rfl) (fun _ _ _ h => h) (Or.inr ⟨by kernel_rfl, rfl⟩) (by assumption) ?_; (try simp only [Act.put, List.getElem_toArray, List.getElem_cons_succ, List.getElem_cons_zero, List.setIfInBounds_toArray, List.set_cons_zero, List.set_cons_succ])
        refine takeF (i := 10) (v := undef) rfl (by kernel_rfl) (fun _ _ _ h => h) (Or.inr ⟨by kernel_rfl, rfl⟩) (by assumption) ?_; (try simp only [Act.put, List.getElem_toArray, List.getElem_cons_succ, List.getElem_cons_zero, List.setIfInBounds_toArray, List.set_cons_zero, List.set_cons_succ])
        refine takeF (i := 11) (v := undef) rfl (by kernel_rfl) (fun _ _ _ h => h) (Or.inr ⟨by kernel_rfl, rfl⟩) (by assumption) ?_; (try simp only [Act.put, List.getElem_toArray, List.getElem_cons_succ, List.getElem_cons_zero, List.setIfInBounds_toArray, List.set_cons_zero, List.set_cons_succ])
        refine takeF (i := 12) (v := undef) rfl (by kernel_rfl) (fun _ _ _ h => h) (Or.inr ⟨by kernel_rfl, rfl⟩) (by assumption) ?_; (try simp only [Act.put, List.getElem_toArray, List.getElem_cons_succ, List.getElem_cons_zero, List.setIfInBounds_toArray, List.set_cons_zero, List.set_cons_succ])
        refine takeF (i := 13) (v := ?_) rfl (by kernel_rfl) (fun _ _ _ h => h) (Or.inl ⟨by kernel_rfl, ?_⟩) (by assumption) ?_; rotate_left; (focus (intro w _; go_simp; (try with_reducible rfl); done)); (try simp only [Act.put, List.getElem_toArray, List.getElem_cons_succ, List.getElem_cons_zero, List.setIfInBounds_toArray, List.set_cons_zero, List.set_cons_succ])
        clear hHeld0
        refine doneS (by kernel_rfl) ?_ _
        go_wp2
        go_meet
        case rel => exact ⟨0, rfl, hk, HKL.out, fun h => absurd h.1 (by decide), HB3.out⟩
    obtain ⟨k, rfl, hk, hkl, hkn, hb⟩ := hcut
    have HKL := Lib.hid hkl; have HKN := Lib.hid hkn; have HBc := Lib.hid hb
    clear hkl hkn hb
    have bk : (k : Int) ≤ own.length := by omega
    have bkc : (k : Int) ≤ co := by omega
    have bnc : (own.length : Int) ≤ co := by omega
    go_upto_region 12 with (fail)
    go_cut [6] (fun v6 wx => ∃ (A : Option Addr) (n c : Nat), v6 = .slice A n c ∧ wx.ownsRow w3.heap.size 33 4 v6 (own.take k ++ (x :: own.drop k)).length ((own.take k ++ (x :: own.drop k)).flatMap ItS.cells) ∧ Below w3.heap.size w3 wx)
    case first =>
      have HB3 := Lib.hid (below_up HBc.out (below_drew1 (w := wc)))
      have HQ : Hid (∀ W' : World, Below w3.heap.size w3 W' → (W'.cell? ⟨g0, o0 + i * 4, none⟩ = some (.int .u64 (x.hi : Nat)) ∧ W'.cell? ⟨g0, o0 + i * 4 + 1, none⟩ = some (.int .u64 (x.lo : Nat)) ∧ W'.cell? ⟨g0, o0 + i * 4 + 2, none⟩ = some (.int .i64 x.od) ∧ W'.cell? ⟨g0, o0 + i * 4 + 3, none⟩ = some (.int .i64 x.id)) ∧ Below w3.heap.size w3 W') := Lib.hid (fun W' hb => by
        obtain ⟨g1, p1, e1, f1⟩ := ir_at (HI.out.1.below (below_up HBl3.out hb)) hlt
        cases e1
        rw [HX.out] at f1
        exact ⟨f1, hb⟩)
      have HRt : Hid (∀ W' : World, Below w3.heap.size w3 W' → Rd W' Ao ((own.take k).flatMap ItS.cells) ∧ Rd W' (if co = k then Ao else Option.map (fun x => x.add (k * 4)) Ao) ((own.drop k).flatMap ItS.cells)) := Lib.hid (fun W' hb => ir_parts (HIr3.out.below hb) hk)
      have HFin : Hid (∀ (W' : World) (v : Value) (n : Nat), W'.ownsRow w3.heap.size 33 4 v n ((own.take k).flatMap ItS.cells ++ [x].flatMap ItS.cells ++ (own.drop k).flatMap ItS.cells) → W'.ownsRow w3.heap.size 33 4 v (own.take k ++ (x :: own.drop k)).length ((own.take k ++ (x :: own.drop k)).flatMap ItS.cells)) := Lib.hid (fun W' v n h => by
        have hl := own_len h
        have e : (own.take k).flatMap ItS.cells ++ [x].flatMap ItS.cells ++ (own.drop k).flatMap ItS.cells = (own.take k ++ (x :: own.drop k)).flatMap ItS.cells := by simp [List.flatMap_append, List.flatMap_cons]
        rw [e] at h hl
        rw [flat_len ItS.cells_len] at hl
        rw [Nat.eq_of_mul_eq_mul_right (by decide) hl]
        exact h)
      refine beginS (S := fun W' => (W'.cell? ⟨g0, o0 + i * 4, none⟩ = some (.int .u64 (x.hi : Nat)) ∧ W'.cell? ⟨g0, o0 + i * 4 + 1, none⟩ = some (.int .u64 (x.lo : Nat)) ∧ W'.cell? ⟨g0, o0 + i * 4 + 2, none⟩ = some (.int .i64 x.od) ∧ W'.cell? ⟨g0, o0 + i * 4 + 3, none⟩ = some (.int .i64 x.id)) ∧ Below w3.heap.size w3 W') [] (by kernel_rfl) (HQ.out _ HB3.out) (fun hHeld0 => ?_)
      have Hb := HB3
      clear HB3
      generalize (World.drew wc) = Wc at *
      refine takeF (i := 1) (v := ?_) rfl (by kernel_rfl) (fun _ _ _ h => h) (Or.inl ⟨by kernel_rfl, ?_⟩) (by assumption) ?_; rotate_left; (focus (intro w _; go_simp; (try with_reducible rfl); done)); (try simp only [Act.put, List.getElem_toArray, List.getElem_cons_succ, List.getElem_cons_zero, List.setIfInBounds_toArray, List.set_cons_zero, List.set_cons_succ])
      refine takeF (i := 2) (v := ?_) rfl (by kernel_rfl) (fun _ _ _ h => h) (Or.inl ⟨by kernel_rfl, ?_⟩) (by assumption) ?_; rotate_left; (focus (intro w _; go_simp; (try with_reducible rfl); done)); (try simp only [Act.put, List.getElem_toArray, List.getElem_cons_succ, List.getElem_cons_zero, List.setIfInBounds_toArray, List.set_cons_zero, List.set_cons_succ])
      refine takeF (i := 3) (v := ?_) rfl (by kernel_rfl) (fun _ _ _ h => h) (Or.inl ⟨by kernel_rfl, ?_⟩) (by assumption) ?_; rotate_left; (focus (intro w _; go_simp; (try with_reducible rfl); done)); (try simp only [Act.put, List.getElem_toArray, List.getElem_cons_succ, List.getElem_cons_zero, List.setIfInBounds_toArray, List.set_cons_zero, List.set_cons_succ])
      refine takeF (i := 5) (v := ?_) rfl (by kernel_rfl) (fun _ _ _ h => h) (Or.inl ⟨by kernel_rfl, ?_⟩) (by assumption) ?_; rotate_left; (focus (intro w _; go_simp; (try with_reducible rfl); done)); (try simp only [Act.put, List.getElem_toArray, List.getElem_cons_succ, List.getElem_cons_zero, List.setIfInBounds_toArray, List.set_cons_zero, List.set_cons_succ])
      refine takeF (i := 6) (v := ?_) rfl (by kernel_rfl) (fun _ _ _ h => h) (Or.inl ⟨by kernel_rfl, ?_⟩) (by assumption) ?_; rotate_left; (focus (intro w _; go_simp; (try with_reducible rfl); done)); (try simp only [Act.put, List.getElem_toArray, List.getElem_cons_succ, List.getElem_cons_zero, List.setIfInBounds_toArray, List.set_cons_zero, List.set_cons_succ])
      refine takeF (i := 7) (v := ?_) rfl (by kernel_rfl) (fun _ _ _ h => h) (Or.inl ⟨by kernel_rfl, ?_⟩) (by assumption) ?_; rotate_left; (focus (intro w _; go_simp; (try with_reducible rfl); done)); (try simp only [Act.put, List.getElem_toArray, List.getElem_cons_succ, List.getElem_cons_zero, List.setIfInBounds_toArray, List.set_cons_zero, List.set_cons_succ])
      refine takeH (i := 8) (v := ?_) rfl (by kernel_rfl) (fun _ _ _ h => h) (Or.inl ⟨by kernel_rfl, ?_⟩) (by assumption) ?_; rotate_left; (focus (intro w hSw; (try dsimp only at hSw); go_simp; (try with_reducible rfl); done)); (try simp only [Act.put, List.getElem_toArray, List.getElem_cons_succ, List.getElem_cons_zero, List.setIfInBounds_toArray, List.set_cons_zero, List.set_cons_succ])
      refine takeF (i := 11) (v := ?_) rfl (by kernel_rfl) (fun _ _ _ h => h) (Or.inl ⟨by kernel_rfl, ?_⟩) (by assumption) ?_; rotate_left; (focus (intro w _; go_simp; (try with_reducible rfl); done)); (try simp only [Act.put, List.getElem_toArray, List.getElem_cons_succ, List.getElem_cons_zero, List.setIfInBounds_toArray, List.set_cons_zero, List.set_cons_succ])
      refine takeF (i := 12) (v := ?_) rfl (by kernel_rfl) (fun _ _ _ h => h) (Or.inl ⟨by kernel_rfl, ?_⟩) (by assumption) ?_; rotate_left; (focus (intro w _; go_simp; (try with_reducible rfl); done)); (try simp only [Act.put, List.getElem_toArray, List.getElem_cons_succ, List.getElem_cons_zero, List.setIfInBounds_toArray, List.set_cons_zero, List.set_cons_succ])
      refine takeF (i := 13) (v := ?_) rfl (by kernel_rfl) (fun _ _ _ h => h) (Or.inl ⟨by kernel_rfl, ?_⟩) (by assumption) ?_; rotate_left; (focus (intro w _; go_simp; (try with_reducible rfl); done)); (try simp only [Act.put, List.getElem_toArray, List.getElem_cons_succ, List.getElem_cons_zero, List.setIfInBounds_toArray, List.set_cons_zero, List.set_cons_succ])
      obtain ⟨A2, hA2⟩ : ∃ A2, (if co = k then Ao else Option.map (fun x => x.add (k * 4)) Ao) = A2 := ⟨_, rfl⟩
      rw [hA2] at HRt ⊢
      clear hA2
      refine readyS (rs := [0, 9]) (by kernel_rfl) (by simp) ?_
      refine ReadyS.consH rfl (fun K hK => ?_) (ReadyS.consH rfl (fun K hK => ?_) ReadyS.nil)
      (try simp only [List.getElem_toArray, List.getElem_cons_succ, List.getElem_cons_zero])
      · go_simp
        have H0' := Lib.hid (own_lower (own_zero Wc 33 4) Hb.out.size)
        have Hb' := Lib.hid (below_alloc Hb.out (.cells #[] 33))
        clear hHeld0
        refine hK.out _ _ (HQ.out _ Hb'.out) (fun hHeld0 => ?_)
        clear hK K
        clear Hb
        have H0 := H0'; have Hb := Hb'; clear H0' Hb'
        generalize (World.alloc Wc _) = Wd at *
        obtain ⟨Wc, rfl⟩ : ∃ W, W = Wd := ⟨_, rfl⟩
        (try simp only [Act.put, List.getElem_toArray, List.getElem_cons_succ, List.getElem_cons_zero, List.setIfInBounds_toArray, List.set_cons_zero, List.set_cons_succ])
        refine readyS (rs := [4, 9]) (by kernel_rfl) (by simp) ?_
        refine ReadyS.consH rfl (fun K hK => ?_) (ReadyS.consH rfl (fun K hK => ?_) ReadyS.nil)
        (try simp only [List.getElem_toArray, List.getElem_cons_succ, List.getElem_cons_zero])
        · rw [if_pos (by kernel_rfl)]
          refine wp_app _ _ 22 (by rfl) w3.heap.size 33 (.agg #[.int .u64 0, .int .u64 0, .int .i64 0, .int .i64 0]) 4 32 Try.underlying22 info_it rfl (by decide) (by decide) _ 0 [] (by rfl) Ao k co ((own.take k).flatMap ItS.cells) (by rfl) H0.out (by rw [flat_len ItS.cells_len, List.length_take, Nat.min_eq_left hk]) (HRt.out _ Hb.out).1 (flat_one ItS.cells_one _) (by omega) Hb.out.size ?_
          intro A4 c4 Wd hown hgrow hat
          rw [Nat.zero_add] at hown hat ⊢
          rw [List.nil_append] at hown
          have Hb' := Lib.hid (below_grown Hb.out hgrow (fun k e => own_base H0.out k e))
          have H4 := Lib.hid hown
          clear hown hgrow hat
          clear hHeld0
          refine hK.out _ _ (HQ.out _ Hb'.out) (fun hHeld0 => ?_)
          clear hK K
          clear Hb H0
          have Hb := Hb'; clear Hb'
          obtain ⟨Wc, rfl⟩ : ∃ W, W = Wd := ⟨_, rfl⟩
          (try simp only [Act.put, List.getElem_toArray, List.getElem_cons_succ, List.getElem_cons_zero, List.setIfInBounds_toArray, List.set_cons_zero, List.set_cons_succ])
          refine readyS (rs := [9]) (by kernel_rfl) (by simp) ?_
          refine ReadyS.consH rfl (fun K hK => ?_) ReadyS.nil
          (try simp only [List.getElem_toArray, List.getElem_cons_succ, List.getElem_cons_zero])
          go_simp
          have H9' := Lib.hid (rd_new Wc #[.int .u64 (x.hi : Nat), .int .u64 (x.lo : Nat), .int .i64 x.od, .int .i64 x.id] 33 ([x].flatMap ItS.cells) rfl)
          have Hb' := Lib.hid (below_alloc Hb.out (.cells #[.int .u64 (x.hi : Nat), .int .u64 (x.lo : Nat), .int .i64 x.od, .int .i64 x.id] 33))
          have H4' := Lib.hid (own_below H4.out (below_alloc1 Wc (.cells #[.int .u64 (x.hi : Nat), .int .u64 (x.lo : Nat), .int .i64 x.od, .int .i64 x.id] 33)))
          clear hHeld0
          refine hK.out _ _ (HQ.out _ Hb'.out) (fun hHeld0 => ?_)
          clear hK K
          clear Hb H4
          have H9 := H9'; have Hb := Hb'; clear H9' Hb'
          have H4 := H4'; clear H4'
          generalize (World.alloc Wc _) = Wd at *
          obtain ⟨Wc, rfl⟩ : ∃ W, W = Wd := ⟨_, rfl⟩
          (try simp only [Act.put, List.getElem_toArray, List.getElem_cons_succ, List.getElem_cons_zero, List.setIfInBounds_toArray, List.set_cons_zero, List.set_cons_succ])
          refine readyS (rs := [10]) (by kernel_rfl) (by simp) ?_
          refine ReadyS.consH rfl (fun K hK => ?_) ReadyS.nil
          (try simp only [List.getElem_toArray, List.getElem_cons_succ, List.getElem_cons_zero])
          rw [if_pos (by kernel_rfl)]
          refine wp_app _ _ 22 (by rfl) w3.heap.size 33 (.agg #[.int .u64 0, .int .u64 0, .int .i64 0, .int .i64 0]) 4 32 Try.underlying22 info_it rfl (by decide) (by decide) (.slice A4 k c4) k ((own.take k).flatMap ItS.cells) (by rfl) _ 1 1 ([x].flatMap ItS.cells) (by rfl) H4.out rfl H9.out (flat_one ItS.cells_one _) (by omega) Hb.out.size ?_
          intro A10 c10 Wd hown hgrow hat
          have Hb' := Lib.hid (below_grown Hb.out hgrow (fun k e => own_base H4.out k e))
          have H10 := Lib.hid hown
          clear hown hgrow hat
          clear hHeld0
          refine hK.out _ _ (HQ.out _ Hb'.out) (fun hHeld0 => ?_)
          clear hK K
          clear Hb H4 H9
          have Hb := Hb'; clear Hb'
          obtain ⟨Wc, rfl⟩ : ∃ W, W = Wd := ⟨_, rfl⟩
          (try simp only [Act.put, List.getElem_toArray, List.getElem_cons_succ, List.getElem_cons_zero, List.setIfInBounds_toArray, List.set_cons_zero, List.set_cons_succ])
          refine readyS (rs := [14]) (by kernel_rfl) (by simp) ?_
          refine ReadyS.consH rfl (fun K hK => ?_) ReadyS.nil
          (try simp only [List.getElem_toArray, List.getElem_cons_succ, List.getElem_cons_zero])
          rw [if_pos (by kernel_rfl)]
          refine wp_app _ _ 22 (by rfl) w3.heap.size 33 (.agg #[.int .u64 0, .int .u64 0, .int .i64 0, .int .i64 0]) 4 32 Try.underlying22 info_it rfl (by decide) (by decide) (.slice A10 (k + 1) c10) (k + 1) ((own.take k).flatMap ItS.cells ++ [x].flatMap ItS.cells) (by rfl) A2 (own.length - k) (co - k) ((own.drop k).flatMap ItS.cells) (by rfl) H10.out (by rw [flat_len ItS.cells_len, List.length_drop]) (HRt.out _ Hb.out).2 (flat_one ItS.cells_one _) (by omega) Hb.out.size ?_
          intro A14 c14 Wd hown hgrow hat
          have Hb' := Lib.hid (below_grown Hb.out hgrow (fun k e => own_base H10.out k e))
          have H14 := Lib.hid hown
          clear hown hgrow hat
          clear hHeld0
          refine hK.out _ _ (HQ.out _ Hb'.out) (fun hHeld0 => ?_)
          clear hK K
          clear Hb H10
          have Hb := Hb'; clear Hb'
          obtain ⟨Wc, rfl⟩ : ∃ W, W = Wd := ⟨_, rfl⟩
          (try simp only [Act.put, List.getElem_toArray, List.getElem_cons_succ, List.getElem_cons_zero, List.setIfInBounds_toArray, List.set_cons_zero, List.set_cons_succ])
          refine takeF (i := 15) (v := ?_) rfl (by kernel_rfl) (fun _ _ _ h => h) (Or.inl ⟨by kernel_rfl, ?_⟩) (by assumption) ?_; rotate_left; (focus (intro w _; go_simp; (try with_reducible rfl); done)); (try simp only [Act.put, List.getElem_toArray, List.getElem_cons_succ, List.getElem_cons_zero, List.setIfInBounds_toArray, List.set_cons_zero, List.set_cons_succ])
          clear hHeld0
          refine doneS (by kernel_rfl) ?_ _
          go_wp2
          go_meet
          case rel => exact ⟨A14, _, c14, rfl, HFin.out _ _ _ H14.out, Hb.out⟩
        · go_simp
          have H9' := Lib.hid (rd_new Wc #[.int .u64 (x.hi : Nat), .int .u64 (x.lo : Nat), .int .i64 x.od, .int .i64 x.id] 33 ([x].flatMap ItS.cells) rfl)
          have Hb' := Lib.hid (below_alloc Hb.out (.cells #[.int .u64 (x.hi : Nat), .int .u64 (x.lo : Nat), .int .i64 x.od, .int .i64 x.id] 33))
          have Hne := Lib.hid (own_lt H0.out _ rfl)
          have H0' := Lib.hid (own_below H0.out (below_alloc1 Wc (.cells #[.int .u64 (x.hi : Nat), .int .u64 (x.lo : Nat), .int .i64 x.od, .int .i64 x.id] 33)))
          clear hHeld0
          refine hK.out _ _ (HQ.out _ Hb'.out) (fun hHeld0 => ?_)
          clear hK K
          clear Hb H0
          have H9 := H9'; have Hb := Hb'; clear H9' Hb'
          have H0 := H0'; clear H0'
          generalize (World.alloc Wc _) = Wd at *
          obtain ⟨Wc, rfl⟩ : ∃ W, W = Wd := ⟨_, rfl⟩
          (try simp only [Act.put, List.getElem_toArray, List.getElem_cons_succ, List.getElem_cons_zero, List.setIfInBounds_toArray, List.set_cons_zero, List.set_cons_succ])
          refine readyS (rs := [4]) (by kernel_rfl) (by simp) ?_
          refine ReadyS.consH rfl (fun K hK => ?_) ReadyS.nil
          (try simp only [List.getElem_toArray, List.getElem_cons_succ, List.getElem_cons_zero])
          rw [if_pos (by kernel_rfl)]
          refine wp_app _ _ 22 (by rfl) w3.heap.size 33 (.agg #[.int .u64 0, .int .u64 0, .int .i64 0, .int .i64 0]) 4 32 Try.underlying22 info_it rfl (by decide) (by decide) _ 0 [] (by rfl) Ao k co ((own.take k).flatMap ItS.cells) (by rfl) H0.out (by rw [flat_len ItS.cells_len, List.length_take, Nat.min_eq_left hk]) (HRt.out _ Hb.out).1 (flat_one ItS.cells_one _) (by omega) Hb.out.size ?_
          intro A4 c4 Wd hown hgrow hat
          rw [Nat.zero_add] at hown hat ⊢
          rw [List.nil_append] at hown
          have Hb' := Lib.hid (below_grown Hb.out hgrow (fun k e => own_base H0.out k e))
          have H4 := Lib.hid hown
          have H9' := Lib.hid (rd_grown H9.out hgrow (fun ad e hk => by cases e; have h1 := Option.some.inj hk; have h2 := Hne.out; (try dsimp only at h1 h2); omega))
          clear hown hgrow hat
          clear hHeld0
          refine hK.out _ _ (HQ.out _ Hb'.out) (fun hHeld0 => ?_)
          clear hK K
          clear Hb H0 H9 Hne
          have Hb := Hb'; clear Hb'
          have H9 := H9'; clear H9'
          obtain ⟨Wc, rfl⟩ : ∃ W, W = Wd := ⟨_, rfl⟩
          (try simp only [Act.put, List.getElem_toArray, List.getElem_cons_succ, List.getElem_cons_zero, List.setIfInBounds_toArray, List.set_cons_zero, List.set_cons_succ])
          refine readyS (rs := [10]) (by kernel_rfl) (by simp) ?_
          refine ReadyS.consH rfl (fun K hK => ?_) ReadyS.nil
          (try simp only [List.getElem_toArray, List.getElem_cons_succ, List.getElem_cons_zero])
          rw [if_pos (by kernel_rfl)]
          refine wp_app _ _ 22 (by rfl) w3.heap.size 33 (.agg #[.int .u64 0, .int .u64 0, .int .i64 0, .int .i64 0]) 4 32 Try.underlying22 info_it rfl (by decide) (by decide) (.slice A4 k c4) k ((own.take k).flatMap ItS.cells) (by rfl) _ 1 1 ([x].flatMap ItS.cells) (by rfl) H4.out rfl H9.out (flat_one ItS.cells_one _) (by omega) Hb.out.size ?_
          intro A10 c10 Wd hown hgrow hat
          have Hb' := Lib.hid (below_grown Hb.out hgrow (fun k e => own_base H4.out k e))
          have H10 := Lib.hid hown
          clear hown hgrow hat
          clear hHeld0
          refine hK.out _ _ (HQ.out _ Hb'.out) (fun hHeld0 => ?_)
          clear hK K
          clear Hb H4 H9
          have Hb := Hb'; clear Hb'
          obtain ⟨Wc, rfl⟩ : ∃ W, W = Wd := ⟨_, rfl⟩
          (try simp only [Act.put, List.getElem_toArray, List.getElem_cons_succ, List.getElem_cons_zero, List.setIfInBounds_toArray, List.set_cons_zero, List.set_cons_succ])
          refine readyS (rs := [14]) (by kernel_rfl) (by simp) ?_
          refine ReadyS.consH rfl (fun K hK => ?_) ReadyS.nil
          (try simp only [List.getElem_toArray, List.getElem_cons_succ, List.getElem_cons_zero])
          rw [if_pos (by kernel_rfl)]
          refine wp_app _ _ 22 (by rfl) w3.heap.size 33 (.agg #[.int .u64 0, .int .u64 0, .int .i64 0, .int .i64 0]) 4 32 Try.underlying22 info_it rfl (by decide) (by decide) (.slice A10 (k + 1) c10) (k + 1) ((own.take k).flatMap ItS.cells ++ [x].flatMap ItS.cells) (by rfl) A2 (own.length - k) (co - k) ((own.drop k).flatMap ItS.cells) (by rfl) H10.out (by rw [flat_len ItS.cells_len, List.length_drop]) (HRt.out _ Hb.out).2 (flat_one ItS.cells_one _) (by omega) Hb.out.size ?_
          intro A14 c14 Wd hown hgrow hat
          have Hb' := Lib.hid (below_grown Hb.out hgrow (fun k e => own_base H10.out k e))
          have H14 := Lib.hid hown
          clear hown hgrow hat
          clear hHeld0
          refine hK.out _ _ (HQ.out _ Hb'.out) (fun hHeld0 => ?_)
          clear hK K
          clear Hb H10
          have Hb := Hb'; clear Hb'
          obtain ⟨Wc, rfl⟩ : ∃ W, W = Wd := ⟨_, rfl⟩
          (try simp only [Act.put, List.getElem_toArray, List.getElem_cons_succ, List.getElem_cons_zero, List.setIfInBounds_toArray, List.set_cons_zero, List.set_cons_succ])
          refine takeF (i := 15) (v := ?_) rfl (by kernel_rfl) (fun _ _ _ h => h) (Or.inl ⟨by kernel_rfl, ?_⟩) (by assumption) ?_; rotate_left; (focus (intro w _; go_simp; (try with_reducible rfl); done)); (try simp only [Act.put, List.getElem_toArray, List.getElem_cons_succ, List.getElem_cons_zero, List.setIfInBounds_toArray, List.set_cons_zero, List.set_cons_succ])
          clear hHeld0
          refine doneS (by kernel_rfl) ?_ _
          go_wp2
          go_meet
          case rel => exact ⟨A14, _, c14, rfl, HFin.out _ _ _ H14.out, Hb.out⟩
      · go_simp
        have H9' := Lib.hid (rd_new Wc #[.int .u64 (x.hi : Nat), .int .u64 (x.lo : Nat), .int .i64 x.od, .int .i64 x.id] 33 ([x].flatMap ItS.cells) rfl)
        have Hb' := Lib.hid (below_alloc Hb.out (.cells #[.int .u64 (x.hi : Nat), .int .u64 (x.lo : Nat), .int .i64 x.od, .int .i64 x.id] 33))
        clear hHeld0
        refine hK.out _ _ (HQ.out _ Hb'.out) (fun hHeld0 => ?_)
        clear hK K
        clear Hb
        have H9 := H9'; have Hb := Hb'; clear H9' Hb'
        generalize (World.alloc Wc _) = Wd at *
        obtain ⟨Wc, rfl⟩ : ∃ W, W = Wd := ⟨_, rfl⟩
        (try simp only [Act.put, List.getElem_toArray, List.getElem_cons_succ, List.getElem_cons_zero, List.setIfInBounds_toArray, List.set_cons_zero, List.set_cons_succ])
        refine readyS (rs := [0]) (by kernel_rfl) (by simp) ?_
        refine ReadyS.consH rfl (fun K hK => ?_) ReadyS.nil
        (try simp only [List.getElem_toArray, List.getElem_cons_succ, List.getElem_cons_zero])
        go_simp
        have H0' := Lib.hid (own_lower (own_zero Wc 33 4) Hb.out.size)
        have Hb' := Lib.hid (below_alloc Hb.out (.cells #[] 33))
        have Hne := Lib.hid (H9.out.lt (by simp [ItS.cells]))
        have H9' := Lib.hid (H9.out.below (below_alloc1 Wc (.cells #[] 33)))
        clear hHeld0
        refine hK.out _ _ (HQ.out _ Hb'.out) (fun hHeld0 => ?_)
        clear hK K
        clear Hb H9
        have H0 := H0'; have Hb := Hb'; clear H0' Hb'
        have H9 := H9'; clear H9'
        generalize (World.alloc Wc _) = Wd at *
        obtain ⟨Wc, rfl⟩ : ∃ W, W = Wd := ⟨_, rfl⟩
        (try simp only [Act.put, List.getElem_toArray, List.getElem_cons_succ, List.getElem_cons_zero, List.setIfInBounds_toArray, List.set_cons_zero, List.set_cons_succ])
        refine readyS (rs := [4]) (by kernel_rfl) (by simp) ?_
        refine ReadyS.consH rfl (fun K hK => ?_) ReadyS.nil
        (try simp only [List.getElem_toArray, List.getElem_cons_succ, List.getElem_cons_zero])
        rw [if_pos (by kernel_rfl)]
        refine wp_app _ _ 22 (by rfl) w3.heap.size 33 (.agg #[.int .u64 0, .int .u64 0, .int .i64 0, .int .i64 0]) 4 32 Try.underlying22 info_it rfl (by decide) (by decide) _ 0 [] (by rfl) Ao k co ((own.take k).flatMap ItS.cells) (by rfl) H0.out (by rw [flat_len ItS.cells_len, List.length_take, Nat.min_eq_left hk]) (HRt.out _ Hb.out).1 (flat_one ItS.cells_one _) (by omega) Hb.out.size ?_
        intro A4 c4 Wd hown hgrow hat
        rw [Nat.zero_add] at hown hat ⊢
        rw [List.nil_append] at hown
        have Hb' := Lib.hid (below_grown Hb.out hgrow (fun k e => own_base H0.out k e))
        have H4 := Lib.hid hown
        have H9' := Lib.hid (rd_grown H9.out hgrow (fun ad e hk => by cases e; have h1 := Option.some.inj hk; have h2 := Hne.out; (try dsimp only at h1 h2); omega))
        clear hown hgrow hat
        clear hHeld0
        refine hK.out _ _ (HQ.out _ Hb'.out) (fun hHeld0 => ?_)
        clear hK K
        clear Hb H0 H9 Hne
        have Hb := Hb'; clear Hb'
        have H9 := H9'; clear H9'
        obtain ⟨Wc, rfl⟩ : ∃ W, W = Wd := ⟨_, rfl⟩
        (try simp only [Act.put, List.getElem_toArray, List.getElem_cons_succ, List.getElem_cons_zero, List.setIfInBounds_toArray, List.set_cons_zero, List.set_cons_succ])
        refine readyS (rs := [10]) (by kernel_rfl) (by simp) ?_
        refine ReadyS.consH rfl (fun K hK => ?_) ReadyS.nil
        (try simp only [List.getElem_toArray, List.getElem_cons_succ, List.getElem_cons_zero])
        rw [if_pos (by kernel_rfl)]
        refine wp_app _ _ 22 (by rfl) w3.heap.size 33 (.agg #[.int .u64 0, .int .u64 0, .int .i64 0, .int .i64 0]) 4 32 Try.underlying22 info_it rfl (by decide) (by decide) (.slice A4 k c4) k ((own.take k).flatMap ItS.cells) (by rfl) _ 1 1 ([x].flatMap ItS.cells) (by rfl) H4.out rfl H9.out (flat_one ItS.cells_one _) (by omega) Hb.out.size ?_
        intro A10 c10 Wd hown hgrow hat
        have Hb' := Lib.hid (below_grown Hb.out hgrow (fun k e => own_base H4.out k e))
        have H10 := Lib.hid hown
        clear hown hgrow hat
        clear hHeld0
        refine hK.out _ _ (HQ.out _ Hb'.out) (fun hHeld0 => ?_)
        clear hK K
        clear Hb H4 H9
        have Hb := Hb'; clear Hb'
        obtain ⟨Wc, rfl⟩ : ∃ W, W = Wd := ⟨_, rfl⟩
        (try simp only [Act.put, List.getElem_toArray, List.getElem_cons_succ, List.getElem_cons_zero, List.setIfInBounds_toArray, List.set_cons_zero, List.set_cons_succ])
        refine readyS (rs := [14]) (by kernel_rfl) (by simp) ?_
        refine ReadyS.consH rfl (fun K hK => ?_) ReadyS.nil
        (try simp only [List.getElem_toArray, List.getElem_cons_succ, List.getElem_cons_zero])
        rw [if_pos (by kernel_rfl)]
        refine wp_app _ _ 22 (by rfl) w3.heap.size 33 (.agg #[.int .u64 0, .int .u64 0, .int .i64 0, .int .i64 0]) 4 32 Try.underlying22 info_it rfl (by decide) (by decide) (.slice A10 (k + 1) c10) (k + 1) ((own.take k).flatMap ItS.cells ++ [x].flatMap ItS.cells) (by rfl) A2 (own.length - k) (co - k) ((own.drop k).flatMap ItS.cells) (by rfl) H10.out (by rw [flat_len ItS.cells_len, List.length_drop]) (HRt.out _ Hb.out).2 (flat_one ItS.cells_one _) (by omega) Hb.out.size ?_
        intro A14 c14 Wd hown hgrow hat
        have Hb' := Lib.hid (below_grown Hb.out hgrow (fun k e => own_base H10.out k e))
        have H14 := Lib.hid hown
        clear hown hgrow hat
        clear hHeld0
        refine hK.out _ _ (HQ.out _ Hb'.out) (fun hHeld0 => ?_)
        clear hK K
        clear Hb H10
        have Hb := Hb'; clear Hb'
        obtain ⟨Wc, rfl⟩ : ∃ W, W = Wd := ⟨_, rfl⟩
        (try simp only [Act.put, List.getElem_toArray, List.getElem_cons_succ, List.getElem_cons_zero, List.setIfInBounds_toArray, List.set_cons_zero, List.set_cons_succ])
        refine takeF (i := 15) (v := ?_) rfl (by kernel_rfl) (fun _ _ _ h => h) (Or.inl ⟨by kernel_rfl, ?_⟩) (by assumption) ?_; rotate_left; (focus (intro w _; go_simp; (try with_reducible rfl); done)); (try simp only [Act.put, List.getElem_toArray, List.getElem_cons_succ, List.getElem_cons_zero, List.setIfInBounds_toArray, List.set_cons_zero, List.set_cons_succ])
        clear hHeld0
        refine doneS (by kernel_rfl) ?_ _
        go_wp2
        go_meet
        case rel => exact ⟨A14, _, c14, rfl, HFin.out _ _ _ H14.out, Hb.out⟩
    obtain ⟨A4, n4, c4, rfl, hown, hb4⟩ := hcut
    have hOwn := Lib.hid hown
    have hB4 := Lib.hid hb4
    clear hown hb4
    obtain ⟨_, _, e4, _⟩ := own_rd hOwn.out
    have hR2 : Hid (Ris ItS.Lt (own.take k ++ (x :: own.drop k))) := Lib.hid (ris_put (lt := ItS.Lt) ItS.Lt.asym ItS.Lt.letr HRs.out x k hk HKL.out (fun h0 => HKN.out ⟨h0, hk⟩))
    have hP2 : Hid ((own.take k ++ (x :: own.drop k)).Perm l3) := Lib.hid ((put_perm x k).trans ((HPm.out.cons x).trans HPm3.out.symm))
    have hLen : Hid ((own.take k ++ (x :: own.drop k)).length = own.length + 1) := Lib.hid (by simp; omega)
    obtain ⟨own2, ho2⟩ : ∃ o, own.take k ++ (x :: own.drop k) = o := ⟨_, rfl⟩
    rw [ho2] at hOwn hR2 hP2 hLen e4
    injection e4 with ea e4 ec
    subst ea ec e4
    clear ho2
    have HA4 := Lib.hid (HA3.out.up hB4.out)
    have HBl4 : Hid (Below w.heap.size w wc) := Lib.hid (below_up HBl3.out hB4.out)
    have hGe : Hid (∀ k', v3.ownBlock = some k' → k' < w3.heap.size) := Lib.hid (fun k' h => own_lt HA3.out.2 k' h)
    have hGp : Hid (p < w3.heap.size) := Lib.hid HA3.out.lt
    go_upto_region 13 with (fail)
    go_cut [78] (fun v78 wx => v78 = .bool (decide (i < pl.length) && pl.getD i false) ∧ wx = wc)
    case first =>
      by_cases hip : i < pl.length
      · have d3 : decide (i < pl.length) = true := decide_eq_true hip
        have bip : (i : Int) < pl.length := by omega
        obtain ⟨g6, o6, rfl, _, hc6⟩ := SRd.get (HI.out.2.below HBl4.out) (fun _ => rfl) (by decide) hip
        have q6 := hc6 0 (by decide)
        simp only [Nat.mul_one, Nat.add_zero, List.getElem?_cons_zero] at q6
        have hP : Hid (pl[i] = (decide (i < pl.length) && pl.getD i false)) := Lib.hid (by simp [List.getD, hip])
        generalize pl[i] = b6 at *
        clear hc6
        go_wp2
        go_meet
        case rel => exact ⟨by rw [hP.out], rfl⟩
      · have d3 : decide (i < pl.length) = false := decide_eq_false hip
        have hP : Hid (false = (decide (i < pl.length) && pl.getD i false)) := Lib.hid (by rw [d3, Bool.false_and])
        go_wp2
        go_meet
        case rel => exact ⟨by rw [← hP.out], rfl⟩
    obtain ⟨rfl, rfl⟩ := hcut
    generalize (decide (i < pl.length) && pl.getD i false) = P
    go_upto_if 78 with (fail)
    go_cut [6] (fun v6 wx => ∃ own', own'.length ≤ own2.length ∧ HR w wx p v6 own')
    case first =>
      cases P
      · go_wp2
        go_meet
        case rel => exact ⟨own2, Nat.le_refl _, _, l3, HA4.out, HHp3.out, hP2.out, hR2.out, srd_own ItS.cells_len (by decide) hOwn.out, fun k' h => ⟨Nat.le_trans HBl3.out.size (own_base hOwn.out k' h), own_lt hOwn.out k' h, fun e => by have := own_base hOwn.out k' h; have := hGp.out; omega, fun e => by have := own_base hOwn.out k' h; have := hGe.out k' e; omega⟩, HWp.out, HBl4.out⟩
      · obtain ⟨a, t, rfl⟩ : ∃ a t, own2 = a :: t := by
          cases own2 with
          | nil => have := hLen.out; simp at this
          | cons a t => exact ⟨a, t, rfl⟩
        have h03 : 0 < l3.length := by rw [← hP2.out.length_eq]; simp
        have h3l : Hid (l3.length ≤ 1000) := Lib.hid (by rw [← hP2.out.length_eq, hLen.out]; omega)
        have ha : a = l3[0] := head_eq hP2.out hR2.out HHp3.out h03
        have hpop := pop_ok HA4.out HHp3.out h3l.out h03
        rw [← ha] at hpop
        have HPop := Lib.hid hpop
        clear hpop ha h03
        obtain ⟨g7, o7, e7, _⟩ := ir_at (srd_own ItS.cells_len (by decide) hOwn.out) (k := 0) (by simp)
        subst e7
        have hIr4 := Lib.hid (srd_own ItS.cells_len (by decide) hOwn.out)
        have hK7 : Hid (w3.heap.size ≤ g7 ∧ g7 < wc.heap.size) := Lib.hid ⟨own_base hOwn.out g7 rfl, own_lt hOwn.out g7 rfl⟩
        go_wp2_with fail
        (with_reducible refine HPop.out.mono ?_); rintro e w5 ⟨rfl, v5, l5, hA5, hH5, hP5, hT5⟩
        have hIr5 := Lib.hid (ir_to hIr4.out hT5 (fun k' h => by
          cases h
          exact ⟨fun e => by have e2 : g7 = p := e; have := hK7.out.1; have := hGp.out; omega, fun e => by have := hK7.out.1; have e2 : g7 < _ := hGe.out _ e; omega⟩))
        have HA5 := Lib.hid hA5; have HH5 := Lib.hid hH5; have HP5 := Lib.hid hP5; have HT5 := Lib.hid hT5
        clear hA5 hH5 hP5 hT5
        have q5 := alloc_at (w := w5) (.cells #[.int .u64 (a.hi : Nat), .int .u64 (a.lo : Nat), .int .i64 a.od, .int .i64 a.id] 33) rfl
        have HX5 := Lib.hid q5
        have qb5 := Lib.hid (below_alloc1 w5 (.cells #[.int .u64 (a.hi : Nat), .int .u64 (a.lo : Nat), .int .i64 a.od, .int .i64 a.id] 33))
        clear q5
        go_upto_region 15 with (fail)
        generalize (World.alloc w5 _) = w6 at *
        obtain ⟨_, _, e7, f7⟩ := ir_at (hIr5.out.below qb5.out) (k := 0) (by simp)
        cases e7
        simp only [List.getElem_cons_zero, Nat.zero_mul, Nat.add_zero] at f7
        have f9 := cells4 HX5.out
        have hHeld0 : ((w6.drew.cell? ⟨w5.heap.size, 0, none⟩ = some (.int .u64 (a.hi : Nat)) ∧ w6.drew.cell? ⟨w5.heap.size, 1, none⟩ = some (.int .u64 (a.lo : Nat)) ∧ w6.drew.cell? ⟨w5.heap.size, 2, none⟩ = some (.int .i64 a.od) ∧ w6.drew.cell? ⟨w5.heap.size, 3, none⟩ = some (.int .i64 a.id)) ∧ (w6.drew.cell? ⟨g7, o7, none⟩ = some (.int .u64 (a.hi : Nat)) ∧ w6.drew.cell? ⟨g7, o7 + 1, none⟩ = some (.int .u64 (a.lo : Nat)) ∧ w6.drew.cell? ⟨g7, o7 + 2, none⟩ = some (.int .i64 a.od) ∧ w6.drew.cell? ⟨g7, o7 + 3, none⟩ = some (.int .i64 a.id))) := ⟨f9, f7⟩
        clear f7 f9
        have bt0 : (0 : Int) < t.length + 1 := by omega
        have bt1 : (1 : Int) ≤ t.length + 1 := by omega
        have hn := neqI_f a
        refine beginS (S := fun W' => (W'.cell? ⟨w5.heap.size, 0, none⟩ = some (.int .u64 (a.hi : Nat)) ∧ W'.cell? ⟨w5.heap.size, 1, none⟩ = some (.int .u64 (a.lo : Nat)) ∧ W'.cell? ⟨w5.heap.size, 2, none⟩ = some (.int .i64 a.od) ∧ W'.cell? ⟨w5.heap.size, 3, none⟩ = some (.int .i64 a.id)) ∧ (W'.cell? ⟨g7, o7, none⟩ = some (.int .u64 (a.hi : Nat)) ∧ W'.cell? ⟨g7, o7 + 1, none⟩ = some (.int .u64 (a.lo : Nat)) ∧ W'.cell? ⟨g7, o7 + 2, none⟩ = some (.int .i64 a.od) ∧ W'.cell? ⟨g7, o7 + 3, none⟩ = some (.int .i64 a.id))) [] (by kernel_rfl) hHeld0 (fun hHeld0 => ?_)
        have HB7 := Lib.hid (below_up qb5.out (below_drew1 (w := w6)))
        generalize (World.drew w6) = w7 at *
        refine takeF (i := 0) (v := ?_) rfl (by kernel_rfl) (fun _ _ _ h => h) (Or.inl ⟨by kernel_rfl, ?_⟩) (by assumption) ?_; rotate_left; (focus (intro w _; go_simp; (try with_reducible rfl); done)); (try simp only [Act.put, List.getElem_toArray, List.getElem_cons_succ, List.getElem_cons_zero, List.setIfInBounds_toArray, List.set_cons_zero, List.set_cons_succ])
        refine takeF (i := 1) (v := ?_) rfl (by kernel_rfl) (fun _ _ _ h => h) (Or.inl ⟨by kernel_rfl, ?_⟩) (by assumption) ?_; rotate_left; (focus (intro w _; go_simp; (try with_reducible rfl); done)); (try simp only [Act.put, List.getElem_toArray, List.getElem_cons_succ, List.getElem_cons_zero, List.setIfInBounds_toArray, List.set_cons_zero, List.set_cons_succ])
        refine takeF (i := 2) (v := ?_) rfl (by kernel_rfl) (fun _ _ _ h => h) (Or.inl ⟨by kernel_rfl, ?_⟩) (by assumption) ?_; rotate_left; (focus (intro w _; go_simp; (try with_reducible rfl); done)); (try simp only [Act.put, List.getElem_toArray, List.getElem_cons_succ, List.getElem_cons_zero, List.setIfInBounds_toArray, List.set_cons_zero, List.set_cons_succ])
        refine takeH (i := 3) (v := ?_) rfl (by kernel_rfl) (fun _ _ _ h => h) (Or.inl ⟨by kernel_rfl, ?_⟩) (by assumption) ?_; rotate_left; (focus (intro w hSw; (try dsimp only at hSw); go_simp; (try with_reducible rfl); done)); (try simp only [Act.put, List.getElem_toArray, List.getElem_cons_succ, List.getElem_cons_zero, List.setIfInBounds_toArray, List.set_cons_zero, List.set_cons_succ])
        refine takeF (i := 4) (v := ?_) rfl (by kernel_rfl) (fun _ _ _ h => h) (Or.inl ⟨by kernel_rfl, ?_⟩) (by assumption) ?_; rotate_left; (focus (intro w _; go_simp; (try with_reducible rfl); done)); (try simp only [Act.put, List.getElem_toArray, List.getElem_cons_succ, List.getElem_cons_zero, List.setIfInBounds_toArray, List.set_cons_zero, List.set_cons_succ])
        refine takeF (i := 5) (v := ?_) rfl (by kernel_rfl) (fun _ _ _ h => h) (Or.inl ⟨by kernel_rfl, ?_⟩) (by assumption) ?_; rotate_left; (focus (intro w _; go_simp; (try with_reducible rfl); done)); (try simp only [Act.put, List.getElem_toArray, List.getElem_cons_succ, List.getElem_cons_zero, List.setIfInBounds_toArray, List.set_cons_zero, List.set_cons_succ])
        refine takeH (i := 6) (v := ?_) rfl (by kernel_rfl) (fun _ _ _ h => h) (Or.inl ⟨by kernel_rfl, ?_⟩) (by assumption) ?_; rotate_left; (focus (intro w hSw; (try dsimp only at hSw); go_simp; (try with_reducible rfl); done)); (try simp only [Act.put, List.getElem_toArray, List.getElem_cons_succ, List.getElem_cons_zero, List.setIfInBounds_toArray, List.set_cons_zero, List.set_cons_succ])
        refine takeF (i := 7) (v := ?_) rfl (by kernel_rfl) (fun _ _ _ h => h) (Or.inl ⟨by kernel_rfl, ?_⟩) (by assumption) ?_; rotate_left; (focus (intro w _; go_simp; (try with_reducible rfl); done)); (try simp only [Act.put, List.getElem_toArray, List.getElem_cons_succ, List.getElem_cons_zero, List.setIfInBounds_toArray, List.set_cons_zero, List.set_cons_succ])
        refine takeF (i := 8) (v := ?_) rfl (by kernel_rfl) (fun _ _ _ h => h) (Or.inl ⟨by kernel_rfl, ?_⟩) (by assumption) ?_; rotate_left; (focus (intro w _; go_simp; (try with_reducible rfl); done)); (try simp only [Act.put, List.getElem_toArray, List.getElem_cons_succ, List.getElem_cons_zero, List.setIfInBounds_toArray, List.set_cons_zero, List.set_cons_succ])
        clear hHeld0 hn
        refine doneS (by kernel_rfl) ?_ _
        have hIr7 := hIr5.out.below HB7.out
        have hct : t.length + 1 ≤ c4 := by have := (SRd.len hIr7).2; simpa using this
        have hHR : Hid (∀ vo, IR w7 vo t → vo.ownBlock = some g7 → ∃ own', own'.length ≤ (a :: t).length ∧ HR w w7 p vo own') := Lib.hid (fun vo h1 h2 =>
          ⟨t, by simp, v5, l5, HA5.out.up HB7.out, HH5.out, (hP2.out.trans HP5.out).cons_inv, ris_tail hR2.out, h1, fun k' hk' => by
            rw [h2] at hk'
            cases hk'
            refine ⟨Nat.le_trans HBl3.out.size hK7.out.1, Nat.lt_of_lt_of_le hK7.out.2 (Nat.le_trans HT5.out.1.size HB7.out.size), fun e => by have := hK7.out.1; have := hGp.out; omega, fun e => ?_⟩
            have h8 := hK7.out
            rcases HT5.out.2 g7 e with h9 | h9
            · have := hGe.out g7 h9; omega
            · omega, HWp.out, by
            refine below_up (((Fr.of_below (S := fun k => w.heap.size ≤ k) HBl4.out).trans HT5.out.1 (fun k' _ h => ?_)).toBelow (fun _ h => h) (Nat.le_refl _)) HB7.out
            rcases h with h | h
            · rw [h]; exact HWp.out
            · exact own_base HA4.out.2 k' h⟩)
        have hIrT : Hid (IR w7 (.slice (some ⟨g7, o7 + 4, none⟩) t.length (c4 - 1)) t) := Lib.hid (by
          have := SRd.drop (k := 1) hIr7 ItS.cells_len (by simp) (c4 - 1) (by simp; omega)
          simpa [add_plain] using this)
        have hIrN : Hid (c4 = 1 → IR w7 (.slice (some ⟨g7, o7, none⟩) t.length 0) t) := Lib.hid (fun e => by
          have : t = [] := List.eq_nil_of_length_eq_zero (by omega)
          subst this
          exact ⟨_, 0, rfl, Nat.le_refl _, Rd.nil _ _⟩)
        clear hIr7
        by_cases hc1 : c4 = 1
        · have hIrN2 := Lib.hid (hIrN.out hc1)
          subst hc1
          go_wp2
          go_meet
          case rel => exact hHR.out _ (by have ht0 : t.length = 0 := (by omega); have := hIrN2.out; rw [ht0] at this; exact this) rfl
        · go_wp2
          go_meet
          case rel => exact hHR.out _ hIrT.out rfl
    obtain ⟨own3, hl3, hR3⟩ := hcut
    have HL3 := Lib.hid hl3
    clear hl3
    obtain ⟨v6, l6, hA6, hHp6, hPm6, hRs6, hIr6, hBk6, hWp6, hBl6⟩ := id hR3
    have hHR3 := Lib.hid hR3
    have hA6' := Lib.hid hA6
    have hpl6 : Hid (l6.length = own3.length) := Lib.hid hPm6.length_eq.symm
    obtain ⟨A6, c6, rfl, _, _⟩ := id hIr6
    have hlen6 := len_ok hA6
    rw [hpl6.out] at hlen6
    have HLen6 := Lib.hid hlen6
    clear hA6 hHp6 hPm6 hRs6 hIr6 hBk6 hWp6 hBl6 hR3 hlen6
    go_wp2_with fail
    (with_reducible refine HLen6.out.mono ?_); rintro e w8 ⟨rfl, rfl⟩
    go_wp2
    exact ⟨⟨i + 1, own3, by go_num, by omega, by omega, by have h1 := HL3.out; have h2 := hLen.out; omega, hHR3.out⟩, by simp [intOf]; omega⟩
  · go_upto_region 6 with (fail)
    go_cut [27] (fun v27 wx => v27 = .bool false ∧ wx = wr)
    case first =>
      by_cases h1 : i < l.length
      · have d1 : decide (i < l.length) = true := decide_eq_true h1
        have d2 : decide ((i : Int) < 60) = false := decide_eq_false (by omega)
        go_wp2
        go_meet
        case rel => exact ⟨rfl, rfl⟩
      · have d1 : decide (i < l.length) = false := decide_eq_false h1
        go_wp2
        go_meet
        case rel => exact ⟨rfl, rfl⟩
    obtain ⟨rfl, rfl⟩ := hcut
    obtain ⟨Ao, co, hvo, _⟩ := HRR.out.choose_spec.choose_spec.2.2.2.2.1
    subst hvo
    have bo : (own.length : Int) ≤ 60 := by omega
    go_wp2_with fail
    go_loopw [11] (fun vj W => ∃ j : Nat, vj = .int .i64 j ∧ j ≤ own.length ∧ HR2 w W p (.slice Ao own.length co) own j) (fun vj _ => own.length - (intOf vj).toNat)
    case atStart => exact ⟨0, rfl, Nat.zero_le _, HRR.out⟩
    case round =>
    obtain ⟨j, rfl, hj, hR2⟩ := hrel
    have HRR2 := Lib.hid hR2
    clear hR2
    by_cases hjl : j < own.length
    · have dj : decide (j < own.length) = true := decide_eq_true hjl
      have bj : (j : Int) < own.length := by omega
      obtain ⟨v, lh, hA, hHp, hPm, hRs, hIr, hBk, hWp, hBl⟩ := HRR2.out
      have hdr : own.drop j = own[j] :: own.drop (j + 1) := List.drop_eq_getElem_cons hjl
      have hRd : Ris ItS.Lt (own.drop j) := List.Pairwise.sublist (List.drop_sublist j own) hRs
      rw [hdr] at hPm hRd
      have h0l : 0 < lh.length := by rw [← hPm.length_eq]; exact Nat.succ_pos _
      have hlh : Hid (lh.length ≤ 1000) := Lib.hid (by rw [← hPm.length_eq]; simp; omega)
      have ha := head_eq hPm hRd hHp h0l
      have hpop := pop_ok hA hHp hlh.out h0l
      rw [← ha] at hpop
      obtain ⟨g7, o7, rfl, _⟩ := ir_at hIr hjl
      have HPop := Lib.hid hpop; have HA := Lib.hid hA; have HPm := Lib.hid hPm; have HRs := Lib.hid hRs; have HIr := Lib.hid hIr; have HBk := Lib.hid (hBk g7 rfl); have HWp := Lib.hid hWp; have HBl := Lib.hid hBl
      clear hpop hA hHp hPm hRs hRd hIr hBk hWp hBl ha hdr h0l
      obtain ⟨a, ha⟩ : ∃ a, own[j] = a := ⟨_, rfl⟩
      rw [ha] at HPop HPm
      have HAe := Lib.hid ha
      clear ha
      go_wp2_with fail
      (with_reducible refine HPop.out.mono ?_); rintro e w5 ⟨rfl, v5, l5, hA5, hH5, hP5, hT5⟩
      have hIr5 := Lib.hid (ir_to HIr.out hT5 (fun k' h => by
        cases h
        exact ⟨HBk.out.2.2.1, HBk.out.2.2.2⟩))
      have HA5 := Lib.hid hA5; have HH5 := Lib.hid hH5; have HP5 := Lib.hid hP5; have HT5 := Lib.hid hT5
      clear hA5 hH5 hP5 hT5
      have q5 := alloc_at (w := w5) (.cells #[.int .u64 (a.hi : Nat), .int .u64 (a.lo : Nat), .int .i64 a.od, .int .i64 a.id] 33) rfl
      have HX5 := Lib.hid q5
      have qb5 := Lib.hid (below_alloc1 w5 (.cells #[.int .u64 (a.hi : Nat), .int .u64 (a.lo : Nat), .int .i64 a.od, .int .i64 a.id] 33))
      clear q5
      go_upto_region 24 with (fail)
      generalize (World.alloc w5 _) = w6 at *
      obtain ⟨_, _, e7, f7⟩ := ir_at (hIr5.out.below qb5.out) hjl
      cases e7
      rw [HAe.out] at f7
      have f9 := cells4 HX5.out
      have hHeld0 : ((w6.drew.cell? ⟨w5.heap.size, 0, none⟩ = some (.int .u64 (a.hi : Nat)) ∧ w6.drew.cell? ⟨w5.heap.size, 1, none⟩ = some (.int .u64 (a.lo : Nat)) ∧ w6.drew.cell? ⟨w5.heap.size, 2, none⟩ = some (.int .i64 a.od) ∧ w6.drew.cell? ⟨w5.heap.size, 3, none⟩ = some (.int .i64 a.id)) ∧ (w6.drew.cell? ⟨g7, o7 + j * 4, none⟩ = some (.int .u64 (a.hi : Nat)) ∧ w6.drew.cell? ⟨g7, o7 + j * 4 + 1, none⟩ = some (.int .u64 (a.lo : Nat)) ∧ w6.drew.cell? ⟨g7, o7 + j * 4 + 2, none⟩ = some (.int .i64 a.od) ∧ w6.drew.cell? ⟨g7, o7 + j * 4 + 3, none⟩ = some (.int .i64 a.id))) := ⟨f9, f7⟩
      clear f7 f9
      have hn := neqI_f a
      refine beginS (S := fun W' => (W'.cell? ⟨w5.heap.size, 0, none⟩ = some (.int .u64 (a.hi : Nat)) ∧ W'.cell? ⟨w5.heap.size, 1, none⟩ = some (.int .u64 (a.lo : Nat)) ∧ W'.cell? ⟨w5.heap.size, 2, none⟩ = some (.int .i64 a.od) ∧ W'.cell? ⟨w5.heap.size, 3, none⟩ = some (.int .i64 a.id)) ∧ (W'.cell? ⟨g7, o7 + j * 4, none⟩ = some (.int .u64 (a.hi : Nat)) ∧ W'.cell? ⟨g7, o7 + j * 4 + 1, none⟩ = some (.int .u64 (a.lo : Nat)) ∧ W'.cell? ⟨g7, o7 + j * 4 + 2, none⟩ = some (.int .i64 a.od) ∧ W'.cell? ⟨g7, o7 + j * 4 + 3, none⟩ = some (.int .i64 a.id))) [] (by kernel_rfl) hHeld0 (fun hHeld0 => ?_)
      have HB7 := Lib.hid (below_up qb5.out (below_drew1 (w := w6)))
      generalize (World.drew w6) = w7 at *
      refine takeF (i := 0) (v := ?_) rfl (by kernel_rfl) (fun _ _ _ h => h) (Or.inl ⟨by kernel_rfl, ?_⟩) (by assumption) ?_; rotate_left; (focus (intro w _; go_simp; (try with_reducible rfl); done)); (try simp only [Act.put, List.getElem_toArray, List.getElem_cons_succ, List.getElem_cons_zero, List.setIfInBounds_toArray, List.set_cons_zero, List.set_cons_succ])
      refine takeF (i := 1) (v := ?_) rfl (by kernel_rfl) (fun _ _ _ h => h) (Or.inl ⟨by kernel_rfl, ?_⟩) (by assumption) ?_; rotate_left; (focus (intro w _; go_simp; (try with_reducible rfl); done)); (try simp only [Act.put, List.getElem_toArray, List.getElem_cons_succ, List.getElem_cons_zero, List.setIfInBounds_toArray, List.set_cons_zero, List.set_cons_succ])
      refine takeF (i := 2) (v := ?_) rfl (by kernel_rfl) (fun _ _ _ h => h) (Or.inl ⟨by kernel_rfl, ?_⟩) (by assumption) ?_; rotate_left; (focus (intro w _; go_simp; (try with_reducible rfl); done)); (try simp only [Act.put, List.getElem_toArray, List.getElem_cons_succ, List.getElem_cons_zero, List.setIfInBounds_toArray, List.set_cons_zero, List.set_cons_succ])
      refine takeH (i := 3) (v := ?_) rfl (by kernel_rfl) (fun _ _ _ h => h) (Or.inl ⟨by kernel_rfl, ?_⟩) (by assumption) ?_; rotate_left; (focus (intro w hSw; (try dsimp only at hSw); go_simp; (try with_reducible rfl); done)); (try simp only [Act.put, List.getElem_toArray, List.getElem_cons_succ, List.getElem_cons_zero, List.setIfInBounds_toArray, List.set_cons_zero, List.set_cons_succ])
      refine takeF (i := 4) (v := ?_) rfl (by kernel_rfl) (fun _ _ _ h => h) (Or.inl ⟨by kernel_rfl, ?_⟩) (by assumption) ?_; rotate_left; (focus (intro w _; go_simp; (try with_reducible rfl); done)); (try simp only [Act.put, List.getElem_toArray, List.getElem_cons_succ, List.getElem_cons_zero, List.setIfInBounds_toArray, List.set_cons_zero, List.set_cons_succ])
      refine takeF (i := 5) (v := ?_) rfl (by kernel_rfl) (fun _ _ _ h => h) (Or.inl ⟨by kernel_rfl, ?_⟩) (by assumption) ?_; rotate_left; (focus (intro w _; go_simp; (try with_reducible rfl); done)); (try simp only [Act.put, List.getElem_toArray, List.getElem_cons_succ, List.getElem_cons_zero, List.setIfInBounds_toArray, List.set_cons_zero, List.set_cons_succ])
      refine takeF (i := 6) (v := ?_) rfl (by kernel_rfl) (fun _ _ _ h => h) (Or.inl ⟨by kernel_rfl, ?_⟩) (by assumption) ?_; rotate_left; (focus (intro w _; go_simp; (try with_reducible rfl); done)); (try simp only [Act.put, List.getElem_toArray, List.getElem_cons_succ, List.getElem_cons_zero, List.setIfInBounds_toArray, List.set_cons_zero, List.set_cons_succ])
      refine takeH (i := 7) (v := ?_) rfl (by kernel_rfl) (fun _ _ _ h => h) (Or.inl ⟨by kernel_rfl, ?_⟩) (by assumption) ?_; rotate_left; (focus (intro w hSw; (try dsimp only at hSw); go_simp; (try with_reducible rfl); done)); (try simp only [Act.put, List.getElem_toArray, List.getElem_cons_succ, List.getElem_cons_zero, List.setIfInBounds_toArray, List.set_cons_zero, List.set_cons_succ])
      refine takeF (i := 8) (v := ?_) rfl (by kernel_rfl) (fun _ _ _ h => h) (Or.inl ⟨by kernel_rfl, ?_⟩) (by assumption) ?_; rotate_left; (focus (intro w _; go_simp; (try with_reducible rfl); done)); (try simp only [Act.put, List.getElem_toArray, List.getElem_cons_succ, List.getElem_cons_zero, List.setIfInBounds_toArray, List.set_cons_zero, List.set_cons_succ])
      refine takeF (i := 9) (v := ?_) rfl (by kernel_rfl) (fun _ _ _ h => h) (Or.inl ⟨by kernel_rfl, ?_⟩) (by assumption) ?_; rotate_left; (focus (intro w _; go_simp; (try with_reducible rfl); done)); (try simp only [Act.put, List.getElem_toArray, List.getElem_cons_succ, List.getElem_cons_zero, List.setIfInBounds_toArray, List.set_cons_zero, List.set_cons_succ])
      clear hHeld0 hn
      refine doneS (by kernel_rfl) ?_ _
      have hHR : Hid (HR2 w w7 p (.slice (some ⟨g7, o7, none⟩) own.length co) own (j + 1)) := Lib.hid ⟨v5, l5, HA5.out.up HB7.out, HH5.out, (HPm.out.trans HP5.out).cons_inv, HRs.out, hIr5.out.below HB7.out, fun k' hk' => by
        cases hk'
        refine ⟨HBk.out.1, Nat.lt_of_lt_of_le HBk.out.2.1 (Nat.le_trans HT5.out.1.size HB7.out.size), HBk.out.2.2.1, fun e => ?_⟩
        rcases HT5.out.2 g7 e with h9 | h9
        · exact HBk.out.2.2.2 h9
        · have h8 : g7 < _ := HBk.out.2.1
          omega, HWp.out, by
        refine below_up (((Fr.of_below (S := fun k => w.heap.size ≤ k) HBl.out).trans HT5.out.1 (fun k' _ h => ?_)).toBelow (fun _ h => h) (Nat.le_refl _)) HB7.out
        rcases h with h | h
        · rw [h]; exact HWp.out
        · exact own_base HA.out.2 k' h⟩
      go_wp2
      exact ⟨⟨j + 1, by go_num, by omega, hHR.out⟩, by simp [intOf]; omega⟩
    · obtain rfl : j = own.length := by omega
      obtain ⟨v, lh, hA, _, hPm, _, _, _, hWp, hBl⟩ := HRR2.out
      obtain rfl : lh = [] := by
        have := hPm.length_eq
        rw [List.length_drop, Nat.sub_self] at this
        exact List.eq_nil_of_length_eq_zero this.symm
      have HPe := Lib.hid (pop_empty hA)
      have HBl := Lib.hid hBl
      clear hA hPm hWp hBl
      have dj : decide (own.length < own.length) = false := decide_eq_false (by omega)
      go_wp2_with fail
      (with_reducible refine HPe.out.mono ?_); rintro e w9 ⟨rfl, hb9⟩
      have HB9 := Lib.hid (below_up HBl.out hb9)
      clear hb9
      go_wp2
      go_ret
      exact ⟨rfl, below_alloc HB9.out _⟩
end Go.Proofs.Ytkjapmafipnmpaa.Hp
