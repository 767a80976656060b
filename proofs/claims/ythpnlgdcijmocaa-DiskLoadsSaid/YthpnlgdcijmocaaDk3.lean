/- The walks over disk's is, Count, Waits, broken, whole. -/
import Derived.Test.YthpnlgdcijmocaaDk2
import Derived.Deep.DeepCutAuto
namespace Go.Proofs.Ythpnlgdcijmocaa.Dk
open Go.RowKit Rg Mp
set_option linter.unusedVariables false
set_option linter.unusedSimpArgs false
section
variable {P : Program} {k e t : TypeId} {W : World} {b n : Nat} {f : Int → Option Value}
/-- delete(m, x) as an operation by itself. -/
theorem wp_mapdel {o : Oper} {a : Act} {K : Act → World → Prop} {Q : Exit → Act → World → Prop} (m x : Operand) (ho : o.op = Op.call { callee := Callee.builtin Builtin.delete, args := #[m, x], argTypes := #[t, k] }) (h : MAt P k W b n f) (hk : P.underlying k = some (.int .i64)) (ht : P.underlying t = some (.map k e))
    {c : Int} (hc : i64 c) (hm : a.eval m = .map (some b)) (hx : a.eval x = .int .i64 c)
    (hK : ∀ W', MAt P k W' b n (upd f c none) → Fr (fun x => x = b) W W' → K (a.put o.dst (.tuple #[])) W') : Oper.wp P o a W K Q := by
  obtain ⟨W', hrun, r1, r2⟩ := h.del hk ht hc o.type
  unfold Oper.wp execOp
  simp only [ho, resolve, invoke, builtin, Sem.run_bind, Sem.run_pure, Result.andThen_ok, List.map_toArray, List.map_cons, List.map_nil, hm, hx, hrun]
  exact hK W' r1 r2
end
theorem cells2d {W : World} {g : Nat} {a b : Value} {t : TypeId} {f : Nat × Nat} (h : W.heap[g]? = some (.cells #[a, b] t f)) : W.cell? ⟨g, 0, none⟩ = some a ∧ W.cell? ⟨g, 1, none⟩ = some b := ⟨cell_block h 0, cell_block h 1⟩
theorem keyD : Try.prog.underlying 3 = some (.int .i64) := Try.underlying3
theorem mapD : Try.prog.underlying 113 = some (.map 3 4) := Try.underlying113
section
variable {L : Int → Prop} {W : World} {base N g r : Nat} {vs vw : Value} {d : DkS}
theorem is_ok (h : W.cell? ⟨g, 0, none⟩ = some (.bool true)) : Calls Try.prog 72 #[.pointer (some ⟨g, 0, none⟩)] W fun e w' => e = .returned (.bool true) ∧ W = w' := by
  go_enter Try.func72, Try.ntmps72
  go_wp2
  go_ret
  exact ⟨rfl, rfl⟩
theorem count_ok (h : DAt L W base N g vs vw r d) : Calls Try.prog 53 #[.pointer (some ⟨g, 0, none⟩)] W fun e w' => e = .returned (.int .i64 (d.sure.length : Nat)) ∧ W = w' := by
  obtain ⟨gb, ok, vf, lf, cl, hb, hq, _, _⟩ := h
  obtain ⟨A, c, rfl, _⟩ := hq.s.slice
  obtain ⟨⟨c0, c1, _⟩, _⟩ := db_cells hb
  have HI := Lib.hid (is_ok c0)
  clear hb hq c0 ok
  go_enter Try.func53, Try.ntmps53
  go_wp2_with fail
  (with_reducible refine HI.out.mono ?_); rintro e w1 ⟨rfl, rfl⟩
  go_wp2
  go_ret
  exact ⟨rfl, rfl⟩
theorem waits_ok (h : DAt L W base N g vs vw r d) : Calls Try.prog 43 #[.pointer (some ⟨g, 0, none⟩)] W fun e w' => e = .returned (.int .i64 (d.waits.length : Nat)) ∧ W = w' := by
  obtain ⟨gb, ok, vf, lf, cl, hb, hq, _, _⟩ := h
  obtain ⟨A, c, rfl, _⟩ := hq.w.slice
  obtain ⟨⟨c0, _, c2, _⟩, _⟩ := db_cells hb
  have HI := Lib.hid (is_ok c0)
  clear hb hq c0 ok
  go_enter Try.func43, Try.ntmps43
  go_wp2_with fail
  (with_reducible refine HI.out.mono ?_); rintro e w1 ⟨rfl, rfl⟩
  go_wp2
  go_ret
  exact ⟨rfl, rfl⟩
set_option maxHeartbeats 1000000 in
theorem brokenS_ok (h : DAt L W base N g vs vw r d) : Calls Try.prog 73 #[.pointer (some ⟨g, 0, none⟩)] W fun e w' => e = .returned (.bool (brkB d)) ∧ DSt L base N g vs vw r (brk d) W w' := by
  have H := Lib.hid h
  obtain ⟨gb, ok, vf, lf, cl, hb, hq, h3, h4⟩ := h
  have HX := Lib.hid (And.intro gb (And.intro ok (And.intro hb (And.intro hq (And.intro h3 h4)))))
  obtain ⟨⟨_, _, _, _, c4⟩, ⟨_, _, _, c8, c9⟩⟩ := db_cells hb
  have f0 := free_block hb
  have hfl := ok.fail
  have hcl := h4.1
  have hci := h4.2
  clear hb hq h3 h4 gb ok
  obtain ⟨o, ho⟩ : ∃ o, d.off = o := ⟨_, rfl⟩
  rw [ho] at c4
  cases o with
  | true =>
    have e1 : brkB d = true := by unfold brkB; rw [ho]; rfl
    have e2 : brk d = d := by unfold brk; rw [if_pos ho]
    rw [e1, e2]
    clear ho hfl hcl hci
    go_enter Try.func73, Try.ntmps73
    go_wp2
    go_ret
    exact ⟨rfl, DSt.refl H.out (Below.refl _ _)⟩
  | false =>
    have e1 : brkB d = decide (d.fail = 0) := by unfold brkB; rw [ho]; rfl
    have e2 : brk d = if 0 < d.fail then { d with fail := d.fail - 1 } else if d.fail = 0 then { d with fail := -1 } else d := by unfold brk; rw [ho]; rfl
    rw [e1, e2]
    have HO := Lib.hid ho
    clear ho e1 e2
    by_cases hf : 0 ≤ d.fail
    · rw [decide_eq_true hf] at c8
      obtain rfl := hcl hf
      by_cases hz : d.fail = 0
      · rw [if_neg (by omega), if_pos hz, decide_eq_true hz]
        rw [hz] at c9
        have hb1 := blk_set HX.out.2.2.1 9 (.int .i64 (-1))
        have hb2 := blk_set hb1 8 (.bool false)
        have HT : Hid (DSt L base N g vs vw r { d with fail := -1 } W _) := Lib.hid (DSt.of_g (lf' := lf) (cl' := -1) HX.out.1 HX.out.2.2.1 HX.out.2.2.2.1 (((Fr.refl (fun k => k = g) W).set (p := ⟨g, 9, none⟩) (fun _ => rfl) (.int .i64 (-1))).set (p := ⟨g, 8, none⟩) (fun _ => rfl) (.bool false)) (by have := hb2; simpa using this) rfl rfl (fun _ => rfl) rfl
          ⟨HX.out.2.1.sec, HX.out.2.1.wt, HX.out.2.1.odd, HX.out.2.1.many, by show (-1 : Int) ≤ -1 ∧ (-1 : Int) ≤ _; omega, HX.out.2.1.cut⟩ HX.out.2.2.2.2.1 ⟨fun h => by have : (0 : Int) ≤ -1 := h; omega, by unfold i64; omega⟩)
        clear hb1 hb2 hf hz hfl hcl hci
        go_enter Try.func73, Try.ntmps73
        go_wp2
        go_ret
        exact ⟨rfl, HT.out⟩
      · have hn1 : IntKind.i64.wrap (d.fail - 1) = d.fail - 1 := by rw [IntWalk.i64_in _ (by omega)]
        have k1 : decide (d.fail - 1 < 0) = false := decide_eq_false (by omega)
        rw [if_pos (by omega), decide_eq_false hz]
        have hb1 := blk_set HX.out.2.2.1 9 (.int .i64 (d.fail - 1))
        have HT : Hid (DSt L base N g vs vw r { d with fail := d.fail - 1 } W _) := Lib.hid (DSt.of_g (lf' := lf) (cl' := d.fail - 1) HX.out.1 HX.out.2.2.1 HX.out.2.2.2.1 ((Fr.refl (fun k => k = g) W).set (p := ⟨g, 9, none⟩) (fun _ => rfl) (.int .i64 (d.fail - 1))) (by have := hb1; rw [show decide (0 ≤ d.fail) = decide (0 ≤ d.fail - 1) by rw [decide_eq_decide]; omega] at this; simpa using this) rfl rfl (fun _ => rfl) rfl
          ⟨HX.out.2.1.sec, HX.out.2.1.wt, HX.out.2.1.odd, HX.out.2.1.many, by show (-1 : Int) ≤ d.fail - 1 ∧ d.fail - 1 ≤ _; omega, HX.out.2.1.cut⟩ HX.out.2.2.2.2.1 ⟨fun h => rfl, by unfold i64; omega⟩)
        clear hb1 hf hfl hcl hci
        go_enter Try.func73, Try.ntmps73
        go_wp2
        go_ret
        exact ⟨rfl, HT.out⟩
    · rw [decide_eq_false hf] at c8
      rw [if_neg (by omega), if_neg (by omega), decide_eq_false (by omega)]
      clear hf hfl hcl hci
      go_enter Try.func73, Try.ntmps73
      go_wp2
      go_ret
      exact ⟨rfl, DSt.refl H.out (Below.refl _ _)⟩
theorem broken_ok (h : DAt L W base N g vs vw r d) : Calls Try.prog 73 #[.pointer (some ⟨g, 0, none⟩)] W fun e w' => e = .returned (.bool (brkB d)) ∧ DTo L base N g vs vw r (brk d) W w' :=
  (brokenS_ok h).mono fun e w' ⟨h1, h2⟩ => ⟨h1, h2.to⟩
set_option maxHeartbeats 2000000 in
set_option maxRecDepth 100000 in
theorem whole_ok (h : DAt L W base N g vs vw r d) {i : Nat} (hi : i < d.sure.length) {v : Value} {b : Oc} (hv : SOwn W base v b) (hb256 : b.length = 256) :
    Calls Try.prog 76 #[.pointer (some ⟨g, 0, none⟩), .agg #[.int .i64 (i : Nat), v]] W fun e w' => e = .returned (.tuple #[]) ∧ DAt L w' base N g vs vw r (put d i b false) ∧ Fr (DO g vs vw r) W w' := by
  have hok := put_ok h.ok hi hb256 false
  obtain ⟨gb, ok, vf, lf, cl, hb, hq, h3, h4⟩ := h
  obtain ⟨gs, c, v0, rfl, z0, z1, _⟩ := hq.s.at_ hi
  obtain ⟨A, cc, rfl, hcc, _, _, _⟩ := own_rd hv
  rw [hb256] at *
  have hba := below_alloc1 W (.cells #[.int .i64 (i : Nat), .slice A 256 cc] 139)
  have hq1 := alloc_at (w := W) (.cells #[.int .i64 (i : Nat), .slice A 256 cc] 139) rfl
  have hd := below_up hba below_drew1
  have HB := Lib.hid (And.intro (block_up hb hd) (And.intro (hq.up hd) (And.intro (block_up hq1 below_drew1) (own_below hv hd))))
  have HF0 := Lib.hid (Fr.of_below (S := DO g (.slice (some ⟨gs, 0, none⟩) d.sure.length c) vw r) hd)
  have HR := Lib.hid (And.intro gb (And.intro hok (And.intro h3 h4)))
  have bi : (i : Int) < d.sure.length := by omega
  have hol := ok.odd
  have HOdd := Lib.hid (show i < d.odd.length by omega)
  have hszi : i ≤ 4096 := by have := ok.many; omega
  have hne : gs ≠ W.heap.size := by
    have := World.block_lt_of_cell? W _ z0
    simp only at this
    omega
  have HZ := Lib.hid (And.intro (cell_up z0 hd) ((hd.frozen (p := ⟨gs, i, none⟩) (by have := World.block_lt_of_cell? W _ z0; exact this)).trans z1))
  clear hb hq hba hq1 hd hv hok z0 z1 ok gb h3 h4 hol
  go_enter Try.func76, Try.ntmps76
  go_wp2_with fail
  obtain ⟨⟨_, c1, _, c3, _⟩, _⟩ := db_cells HB.out.1
  obtain ⟨e0, e1⟩ := cells2d HB.out.2.2.1
  refine beginS (S := fun W' => W'.cell? ⟨g, 1, none⟩ = some (.slice (some ⟨gs, 0, none⟩) d.sure.length c) ∧ W'.cell? ⟨W.heap.size, 0, none⟩ = some (.int .i64 (i : Nat)) ∧ W'.cell? ⟨W.heap.size, 1, none⟩ = some (.slice A 256 cc)) [9] (by kernel_rfl) ⟨c1, e0, e1⟩ (fun hHeld0 => ?_)
  generalize (World.drew _) = W0 at *
  clear c1 c3 e0 e1
  refine takeF (i := 0) (v := ?_) rfl (by kernel_rfl) (fun _ _ _ h => h) (Or.inl ⟨by kernel_rfl, ?_⟩) (by assumption) ?_; rotate_left; (focus (intro w _; go_simp; (try with_reducible rfl); done)); (try simp only [Act.put, List.getElem_toArray, List.getElem_cons_succ, List.getElem_cons_zero, List.setIfInBounds_toArray, List.set_cons_zero, List.set_cons_succ])
  refine takeF (i := 1) (v := ?_) rfl (by kernel_rfl) (fun _ _ _ h => h) (Or.inl ⟨by kernel_rfl, ?_⟩) (by assumption) ?_; rotate_left; (focus (intro w _; go_simp; (try with_reducible rfl); done)); (try simp only [Act.put, List.getElem_toArray, List.getElem_cons_succ, List.getElem_cons_zero, List.setIfInBounds_toArray, List.set_cons_zero, List.set_cons_succ])
  refine takeF (i := 2) (v := ?_) rfl (by kernel_rfl) (fun _ _ _ h => h) (Or.inl ⟨by kernel_rfl, ?_⟩) (by assumption) ?_; rotate_left; (focus (intro w _; go_simp; (try with_reducible rfl); done)); (try simp only [Act.put, List.getElem_toArray, List.getElem_cons_succ, List.getElem_cons_zero, List.setIfInBounds_toArray, List.set_cons_zero, List.set_cons_succ])
  refine takeH (i := 3) (v := ?_) rfl (by kernel_rfl) (fun _ _ _ h => h) (Or.inl ⟨by kernel_rfl, ?_⟩) (by assumption) ?_; rotate_left; (focus (intro w hSw; (try dsimp only at hSw); go_simp; (try with_reducible rfl); done)); (try simp only [Act.put, List.getElem_toArray, List.getElem_cons_succ, List.getElem_cons_zero, List.setIfInBounds_toArray, List.set_cons_zero, List.set_cons_succ])
  refine takeF (i := 4) (v := ?_) rfl (by kernel_rfl) (fun _ _ _ h => h) (Or.inl ⟨by kernel_rfl, ?_⟩) (by assumption) ?_; rotate_left; (focus (intro w _; go_simp; (try with_reducible rfl); done)); (try simp only [Act.put, List.getElem_toArray, List.getElem_cons_succ, List.getElem_cons_zero, List.setIfInBounds_toArray, List.set_cons_zero, List.set_cons_succ])
  refine takeH (i := 5) (v := ?_) rfl (by kernel_rfl) (fun _ _ _ h => h) (Or.inl ⟨by kernel_rfl, ?_⟩) (by assumption) ?_; rotate_left; (focus (intro w hSw; (try dsimp only at hSw); go_simp; (try with_reducible rfl); done)); (try simp only [Act.put, List.getElem_toArray, List.getElem_cons_succ, List.getElem_cons_zero, List.setIfInBounds_toArray, List.set_cons_zero, List.set_cons_succ])
  refine takeF (i := 6) (v := ?_) rfl (by kernel_rfl) (fun _ _ _ h => h) (Or.inl ⟨by kernel_rfl, ?_⟩) (by assumption) ?_; rotate_left; (focus (intro w _; go_simp; (try with_reducible rfl); done)); (try simp only [Act.put, List.getElem_toArray, List.getElem_cons_succ, List.getElem_cons_zero, List.setIfInBounds_toArray, List.set_cons_zero, List.set_cons_succ])
  refine takeH (i := 7) (v := ?_) rfl (by kernel_rfl) (fun _ _ _ h => h) (Or.inl ⟨by kernel_rfl, ?_⟩) (by assumption) ?_; rotate_left; (focus (intro w hSw; (try dsimp only at hSw); go_simp; (try with_reducible rfl); done)); (try simp only [Act.put, List.getElem_toArray, List.getElem_cons_succ, List.getElem_cons_zero, List.setIfInBounds_toArray, List.set_cons_zero, List.set_cons_succ])
  refine takeF (i := 8) (v := ?_) rfl (by kernel_rfl) (fun _ _ _ h => h) (Or.inl ⟨by kernel_rfl, ?_⟩) (by assumption) ?_; rotate_left; (focus (intro w _; go_simp; (try with_reducible rfl); done)); (try simp only [Act.put, List.getElem_toArray, List.getElem_cons_succ, List.getElem_cons_zero, List.setIfInBounds_toArray, List.set_cons_zero, List.set_cons_succ])
  clear hHeld0
  have z0 := HZ.out.1
  have z1 := HZ.out.2
  refine readyS (rs := [9]) (by kernel_rfl) (by simp) ?_
  refine ReadyS.consP rfl (by kernel_rfl) (fun K hK => ?_) ReadyS.nil
  (try simp only [List.getElem_toArray, List.getElem_cons_succ, List.getElem_cons_zero])
  go_simp
  have hb2 : DB (W0.setCell ⟨gs, i, none⟩ (.slice A 256 cc)) g (.slice (some ⟨gs, 0, none⟩) d.sure.length c) vw r _ _ lf vf _ cl := blk_far HB.out.1 (fun e => DB.off_s HB.out.1 HB.out.2.1.s (by rw [e]; rfl)) _
  have HB2 := Lib.hid (And.intro hb2 (And.intro (HB.out.2.1.set_s rfl hi HB.out.2.2.2) (And.intro (blk_far HB.out.2.2.1 (fun e => hne e.symm) (.slice A 256 cc) : (W0.setCell ⟨gs, i, none⟩ (.slice A 256 cc)).heap[W.heap.size]? = _) (HF0.out.set (p := ⟨gs, i, none⟩) (fun _ => .inr (.inl rfl)) (.slice A 256 cc)))))
  clear hb2 z0 z1
  generalize (World.setCell W0 _ _) = W2 at *
  refine hK.out _ _ ?_
  clear hK K
  (try simp only [Act.put, List.getElem_toArray, List.getElem_cons_succ, List.getElem_cons_zero, List.setIfInBounds_toArray, List.set_cons_zero, List.set_cons_succ])
  refine doneS (by kernel_rfl) ?_ _
  clear hne HB HF0 HZ
  go_wp2_with fail
  have hd := below_drew1 (w := W2)
  have HB3 := Lib.hid (And.intro (block_up HB2.out.1 hd) (And.intro (HB2.out.2.1.up hd) (HB2.out.2.2.2.below hd)))
  obtain ⟨⟨_, _, _, c3, _⟩, _⟩ := db_cells HB3.out.1
  obtain ⟨e0, e1⟩ := cells2d (block_up HB2.out.2.2.1 hd)
  refine beginS (S := fun W' => W'.cell? ⟨g, 3, none⟩ = some (.map (some r)) ∧ W'.cell? ⟨W.heap.size, 0, none⟩ = some (.int .i64 (i : Nat))) [6] (by kernel_rfl) ⟨c3, e0⟩ (fun hHeld0 => ?_)
  generalize (World.drew _) = W3 at *
  clear c3 e0 e1 hd
  refine takeF (i := 0) (v := ?_) rfl (by kernel_rfl) (fun _ _ _ h => h) (Or.inl ⟨by kernel_rfl, ?_⟩) (by assumption) ?_; rotate_left; (focus (intro w _; go_simp; (try with_reducible rfl); done)); (try simp only [Act.put, List.getElem_toArray, List.getElem_cons_succ, List.getElem_cons_zero, List.setIfInBounds_toArray, List.set_cons_zero, List.set_cons_succ])
  refine takeF (i := 1) (v := ?_) rfl (by kernel_rfl) (fun _ _ _ h => h) (Or.inl ⟨by kernel_rfl, ?_⟩) (by assumption) ?_; rotate_left; (focus (intro w _; go_simp; (try with_reducible rfl); done)); (try simp only [Act.put, List.getElem_toArray, List.getElem_cons_succ, List.getElem_cons_zero, List.setIfInBounds_toArray, List.set_cons_zero, List.set_cons_succ])
  refine takeF (i := 2) (v := ?_) rfl (by kernel_rfl) (fun _ _ _ h => h) (Or.inl ⟨by kernel_rfl, ?_⟩) (by assumption) ?_; rotate_left; (focus (intro w _; go_simp; (try with_reducible rfl); done)); (try simp only [Act.put, List.getElem_toArray, List.getElem_cons_succ, List.getElem_cons_zero, List.setIfInBounds_toArray, List.set_cons_zero, List.set_cons_succ])
  refine takeH (i := 3) (v := ?_) rfl (by kernel_rfl) (fun _ _ _ h => h) (Or.inl ⟨by kernel_rfl, ?_⟩) (by assumption) ?_; rotate_left; (focus (intro w hSw; (try dsimp only at hSw); go_simp; (try with_reducible rfl); done)); (try simp only [Act.put, List.getElem_toArray, List.getElem_cons_succ, List.getElem_cons_zero, List.setIfInBounds_toArray, List.set_cons_zero, List.set_cons_succ])
  refine takeF (i := 4) (v := ?_) rfl (by kernel_rfl) (fun _ _ _ h => h) (Or.inl ⟨by kernel_rfl, ?_⟩) (by assumption) ?_; rotate_left; (focus (intro w _; go_simp; (try with_reducible rfl); done)); (try simp only [Act.put, List.getElem_toArray, List.getElem_cons_succ, List.getElem_cons_zero, List.setIfInBounds_toArray, List.set_cons_zero, List.set_cons_succ])
  refine takeH (i := 5) (v := ?_) rfl (by kernel_rfl) (fun _ _ _ h => h) (Or.inl ⟨by kernel_rfl, ?_⟩) (by assumption) ?_; rotate_left; (focus (intro w hSw; (try dsimp only at hSw); go_simp; (try with_reducible rfl); done)); (try simp only [Act.put, List.getElem_toArray, List.getElem_cons_succ, List.getElem_cons_zero, List.setIfInBounds_toArray, List.set_cons_zero, List.set_cons_succ])
  clear hHeld0
  refine readyS (rs := [6]) (by kernel_rfl) (by simp) ?_
  refine ReadyS.consP rfl (by kernel_rfl) (fun K hK => ?_) ReadyS.nil
  (try simp only [List.getElem_toArray, List.getElem_cons_succ, List.getElem_cons_zero])
  rw [if_pos (by kernel_rfl)]
  refine wp_mapdel _ _ (by rfl) HB3.out.2.1.m keyD mapD (c := (i : Nat)) ⟨by omega, by omega⟩ (by rfl) (by rfl) ?_
  intro W4 hM hF
  have HM := Lib.hid hM
  have HF := Lib.hid hF
  clear hM hF
  refine hK.out _ _ ?_
  clear hK K
  (try simp only [Act.put, List.getElem_toArray, List.getElem_cons_succ, List.getElem_cons_zero, List.setIfInBounds_toArray, List.set_cons_zero, List.set_cons_succ])
  refine doneS (by kernel_rfl) ?_ _
  go_wp2
  go_end0
  have hp := HB3.out.2.1.fr_m HF.out HM.out
  have hb4 : DB W4 g (.slice (some ⟨gs, 0, none⟩) d.sure.length c) vw r _ _ lf vf _ cl := blk_fr HB3.out.1 HF.out (fun e => DB.off_m HB3.out.1 HB3.out.2.1.m e.symm)
  exact ⟨rfl, ⟨HR.out.1, HR.out.2.1, vf, lf, cl, hb4, hp.congr (oddF_del d i b HOdd.out), HR.out.2.2.1, HR.out.2.2.2⟩, HB3.out.2.2.trans HF.out (fun k _ e => .inr (.inr (.inr e)))⟩
end
end Go.Proofs.Ythpnlgdcijmocaa.Dk
