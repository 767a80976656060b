/- The walk over croftlaw18.is. -/
import Derived.Test.YthpnlgdcijmocaaPl12
namespace Go.Proofs.Ythpnlgdcijmocaa.Pl
open Go.RowKit Rg
set_option linter.unusedVariables false
set_option linter.unusedSimpArgs false
theorem is_no {p at_ : PlcS} {last b : Bool} {es l : List EntS} {R : Bool} (hR : decide ((⟨p, last, es⟩ : PartD) = ⟨at_, b, l⟩) = R) (h : p.seg = at_.seg → p.off = at_.off → p.next = at_.next → last = b → es.length = l.length → False) : false = R := by
  rw [← hR]
  symm
  rw [decide_eq_false_iff_not]
  intro e
  cases e
  exact h rfl rfl rfl rfl rfl
theorem is_yes {p at_ : PlcS} {last b : Bool} {es l : List EntS} (h1 : p.seg = at_.seg) (h2 : p.off = at_.off) (h3 : p.next = at_.next) (h4 : last = b) : decide ((⟨p, last, es⟩ : PartD) = ⟨at_, b, l⟩) = decide (es = l) := by
  obtain ⟨a, b, c⟩ := p
  obtain ⟨a', b', c'⟩ := at_
  simp only at h1 h2 h3
  subst h1 h2 h3 h4
  simp
set_option maxHeartbeats 8000000 in
set_option maxRecDepth 100000 in
theorem is_ok (p : PlcS) (last : Bool) (vx : Value) (es : List EntS) (at_ : PlcS) (v : Value) (l : List EntS) (b : Bool) (w : World) (hx : ERd w vx es) (hv : ERd w v l) (hl : l.length ≤ 1000000) (hel : es.length ≤ 1000000) :
    Calls Try.prog 19 #[.agg #[.int .i64 p.seg, .int .i64 p.off, .int .i64 p.next, .int .i64 p.next, .bool last, vx], plv at_, v, .bool b] w fun e w' => e = .returned (.bool (decide ((⟨p, last, es⟩ : PartD) = ⟨at_, b, l⟩))) ∧ Below w.heap.size w w' := by
  obtain ⟨wA, hwA⟩ : ∃ W, ((w.alloc (.cells #[.int .i64 p.seg, .int .i64 p.off, .int .i64 p.next, .int .i64 p.next, .bool last, vx] 37)).alloc (.cells #[.int .i64 at_.seg, .int .i64 at_.off, .int .i64 at_.next] 28)) = W := ⟨_, rfl⟩
  have s1 : (w.alloc (.cells #[.int .i64 p.seg, .int .i64 p.off, .int .i64 p.next, .int .i64 p.next, .bool last, vx] 37)).heap.size = w.heap.size + 1 := by unfold World.alloc; simp
  have HG : Hid (wA.heap[w.heap.size]? = some (.cells #[.int .i64 p.seg, .int .i64 p.off, .int .i64 p.next, .int .i64 p.next, .bool last, vx] 37 (0, 0))) := Lib.hid (by rw [← hwA]; exact alloc_old (alloc_at (w := w) _ rfl) _)
  have HP : Hid (wA.heap[w.heap.size + 1]? = some (.cells #[.int .i64 at_.seg, .int .i64 at_.off, .int .i64 at_.next] 28 (0, 0))) := Lib.hid (by rw [← hwA]; exact alloc_at _ s1.symm)
  have HA : Hid (Below w.heap.size w wA) := Lib.hid (by rw [← hwA]; exact below_alloc (below_alloc1 w _) _)
  have HX := Lib.hid hx
  have HV := Lib.hid hv
  obtain ⟨Ax, cx, rfl, _, _⟩ := hx
  obtain ⟨Av, cv, rfl, _, _⟩ := hv
  clear s1
  obtain ⟨R, hR⟩ : ∃ r, decide ((⟨p, last, es⟩ : PartD) = ⟨at_, b, l⟩) = r := ⟨_, rfl⟩
  rw [hR]
  have HRr := Lib.hid hR
  clear hR
  have g0 : wA.cell? ⟨w.heap.size, 0, none⟩ = some (.int .i64 p.seg) := by rw [cell_block HG.out]; rfl
  have g1 : wA.cell? ⟨w.heap.size, 1, none⟩ = some (.int .i64 p.off) := by rw [cell_block HG.out]; rfl
  have g2 : wA.cell? ⟨w.heap.size, 2, none⟩ = some (.int .i64 p.next) := by rw [cell_block HG.out]; rfl
  have g3 : wA.cell? ⟨w.heap.size, 3, none⟩ = some (.int .i64 p.next) := by rw [cell_block HG.out]; rfl
  have g4 : wA.cell? ⟨w.heap.size, 4, none⟩ = some (.bool last) := by rw [cell_block HG.out]; rfl
  have g5 : wA.cell? ⟨w.heap.size, 5, none⟩ = some (.slice Ax es.length cx) := by rw [cell_block HG.out]; rfl
  obtain ⟨p0, p1, p2⟩ := cells3p HP.out
  go_enter Try.func19, Try.ntmps19
  go_upto_region 1 with (fail)
  clear hwA
  go_wp2_with fail
  all_goals first
    | (go_ret; exact ⟨ret_bool (is_no HRr.out (fun e1 e2 e3 e4 e5 => by simp_all)), HA.out⟩)
    | skip
  rename_i y1 y2 y3 y4 y5 K1 hK1
  have hlen : es.length = l.length := Int.ofNat.inj (show (es.length : Int) = l.length by simpa using y5)
  have HS := Lib.hid ((is_yes (es := es) (l := l) y1 y2 y3 y4).symm.trans HRr.out)
  clear HRr y1 y2 y3 y4 y5 p0 p1 p2 g0 g1 g2 g3 g4 g5
  go_loopw [9] (fun vi W' => ∃ k : Nat, vi = .int .i64 k ∧ k ≤ l.length ∧ es.take k = l.take k ∧ Below wA.heap.size wA W') (fun vi _ => l.length - (intOf vi).toNat)
  case atStart => exact ⟨0, rfl, Nat.zero_le _, rfl, Below.refl _ _⟩
  case round =>
  obtain ⟨k, rfl, hk, htk, hB⟩ := hrel
  have HBk := Lib.hid hB
  have HTk := Lib.hid htk
  clear hB htk
  by_cases hkl : k < l.length
  · have d : decide (k < l.length) = true := decide_eq_true hkl
    have di : decide ((k : Int) < l.length) = true := decide_eq_true (by omega)
    have bk : (k : Int) < l.length := by omega
    have bk2 : (k : Int) < es.length := by omega
    obtain ⟨gv_, ov, rfl, _, hcv⟩ := (HV.out.below HA.out).get EntS.cells_len (by decide) hkl
    obtain ⟨gx, ox, rfl, _, hcx⟩ := (HX.out.below HA.out).get EntS.cells_len (by decide) (show k < es.length by omega)
    have cv0 := hcv 0 (by decide)
    have cv1 := hcv 1 (by decide)
    have cx0 := hcx 0 (by decide)
    have cx1 := hcx 1 (by decide)
    have hstep : es.take (k + 1) = l.take (k + 1) ↔ es[k] = l[k] := by
      rw [List.take_succ_eq_append_getElem hkl, List.take_succ_eq_append_getElem (show k < es.length by omega), HTk.out, List.append_cancel_left_eq]
      simp only [List.cons.injEq, and_true]
    have HSt := Lib.hid hstep
    have hne : es[k] ≠ l[k] → es ≠ l := fun h e => by subst e; exact h rfl
    have HNe := Lib.hid hne
    clear hcv hcx hstep hne
    generalize l[k] = y at *
    generalize es[k]'(by omega) = x at *
    simp only [Nat.add_zero, EntS.cells, List.getElem?_cons_zero, List.getElem?_cons_succ] at cv0 cv1 cx0 cx1
    have HC := Lib.hid (And.intro (And.intro cv0 cv1) (And.intro cx0 cx1))
    clear cv0 cv1 cx0 cx1
    go_upto_region 6 with (fail)
    have HD := Lib.hid (below_up HBk.out (below_drew1 (w := wr)))
    have HQ : Hid ((wr.drew.cell? ⟨w.heap.size, 5, none⟩ = some (.slice (some ⟨gx, ox, none⟩) es.length cx)) ∧ (wr.drew.cell? ⟨gv_, ov + k * 2, none⟩ = some (.int .i64 y.kind) ∧ wr.drew.cell? ⟨gv_, ov + k * 2 + 1, none⟩ = some (.int .i64 y.id)) ∧ (wr.drew.cell? ⟨gx, ox + k * 2, none⟩ = some (.int .i64 x.kind) ∧ wr.drew.cell? ⟨gx, ox + k * 2 + 1, none⟩ = some (.int .i64 x.id))) := Lib.hid ⟨by rw [cell_block (block_up HG.out HD.out)]; rfl, ⟨cell_up HC.out.1.1 HD.out, cell_up HC.out.1.2 HD.out⟩, ⟨cell_up HC.out.2.1 HD.out, cell_up HC.out.2.2 HD.out⟩⟩
    refine beginS (S := fun W' => (W'.cell? ⟨w.heap.size, 5, none⟩ = some (.slice (some ⟨gx, ox, none⟩) es.length cx)) ∧ (W'.cell? ⟨gv_, ov + k * 2, none⟩ = some (.int .i64 y.kind) ∧ W'.cell? ⟨gv_, ov + k * 2 + 1, none⟩ = some (.int .i64 y.id)) ∧ (W'.cell? ⟨gx, ox + k * 2, none⟩ = some (.int .i64 x.kind) ∧ W'.cell? ⟨gx, ox + k * 2 + 1, none⟩ = some (.int .i64 x.id))) [] (by kernel_rfl) HQ.out (fun hHeld0 => ?_)
    generalize (World.drew wr) = W0 at *
    rcases (show (x.kind = y.kind ∧ x.id = y.id) ∨ ¬ x.kind = y.kind ∨ (x.kind = y.kind ∧ ¬ x.id = y.id) by omega) with ⟨j1, j2⟩ | j1 | ⟨j1, j2⟩
    · skip
      refine takeF (i := 0) (v := ?_) rfl (by kernel_rfl) (fun _ _ _ h => h) (Or.inl ⟨by kernel_rfl, ?_⟩) (by assumption) ?_; rotate_left; (focus (intro w _; go_simp; (try with_reducible rfl); done)); (try simp only [Act.put, List.getElem_toArray, List.getElem_cons_succ, List.getElem_cons_zero, List.setIfInBounds_toArray, List.set_cons_zero, List.set_cons_succ])
      refine takeF (i := 1) (v := ?_) rfl (by kernel_rfl) (fun _ _ _ h => h) (Or.inl ⟨by kernel_rfl, ?_⟩) (by assumption) ?_; rotate_left; (focus (intro w _; go_simp; (try with_reducible rfl); done)); (try simp only [Act.put, List.getElem_toArray, List.getElem_cons_succ, List.getElem_cons_zero, List.setIfInBounds_toArray, List.set_cons_zero, List.set_cons_succ])
      refine takeH (i := 2) (v := ?_) rfl (by kernel_rfl) (fun _ _ _ h => h) (Or.inl ⟨by kernel_rfl, ?_⟩) (by assumption) ?_; rotate_left; (focus (intro w hSw; (try dsimp only at hSw); go_simp; (try with_reducible rfl); done)); (try simp only [Act.put, List.getElem_toArray, List.getElem_cons_succ, List.getElem_cons_zero, List.setIfInBounds_toArray, List.set_cons_zero, List.set_cons_succ])
      refine takeF (i := 3) (v := ?_) rfl (by kernel_rfl) (fun _ _ _ h => h) (Or.inl ⟨by kernel_rfl, ?_⟩) (by assumption) ?_; rotate_left; (focus (intro w _; go_simp; (try with_reducible rfl); done)); (try simp only [Act.put, List.getElem_toArray, List.getElem_cons_succ, List.getElem_cons_zero, List.setIfInBounds_toArray, List.set_cons_zero, List.set_cons_succ])
      refine takeF (i := 4) (v := ?_) rfl (by kernel_rfl) (fun _ _ _ h => h) (Or.inl ⟨by kernel_rfl, ?_⟩) (by assumption) ?_; rotate_left; (focus (intro w _; go_simp; (try with_reducible rfl); done)); (try simp only [Act.put, List.getElem_toArray, List.getElem_cons_succ, List.getElem_cons_zero, List.setIfInBounds_toArray, List.set_cons_zero, List.set_cons_succ])
      refine takeH (i := 5) (v := ?_) rfl (by kernel_rfl) (fun _ _ _ h => h) (Or.inl ⟨by kernel_rfl, ?_⟩) (by assumption) ?_; rotate_left; (focus (intro w hSw; (try dsimp only at hSw); go_simp; (try with_reducible rfl); done)); (try simp only [Act.put, List.getElem_toArray, List.getElem_cons_succ, List.getElem_cons_zero, List.setIfInBounds_toArray, List.set_cons_zero, List.set_cons_succ])
      refine takeF (i := 6) (v := ?_) rfl (by kernel_rfl) (fun _ _ _ h => h) (Or.inl ⟨by kernel_rfl, ?_⟩) (by assumption) ?_; rotate_left; (focus (intro w _; go_simp; (try with_reducible rfl); done)); (try simp only [Act.put, List.getElem_toArray, List.getElem_cons_succ, List.getElem_cons_zero, List.setIfInBounds_toArray, List.set_cons_zero, List.set_cons_succ])
      refine takeF (i := 7) (v := ?_) rfl (by kernel_rfl) (fun _ _ _ h => h) (Or.inl ⟨by kernel_rfl, ?_⟩) (by assumption) ?_; rotate_left; (focus (intro w _; go_simp; (try with_reducible rfl); done)); (try simp only [Act.put, List.getElem_toArray, List.getElem_cons_succ, List.getElem_cons_zero, List.setIfInBounds_toArray, List.set_cons_zero, List.set_cons_succ])
      refine takeF (i := 8) (v := ?_) rfl (by kernel_rfl) (fun _ _ _ h => h) (Or.inl ⟨by kernel_rfl, ?_⟩) (by assumption) ?_; rotate_left; (focus (intro w _; go_simp; (try with_reducible rfl); done)); (try simp only [Act.put, List.getElem_toArray, List.getElem_cons_succ, List.getElem_cons_zero, List.setIfInBounds_toArray, List.set_cons_zero, List.set_cons_succ])
      refine takeH (i := 9) (v := ?_) rfl (by kernel_rfl) (fun _ _ _ h => h) (Or.inl ⟨by kernel_rfl, ?_⟩) (by assumption) ?_; rotate_left; (focus (intro w hSw; (try dsimp only at hSw); go_simp; (try with_reducible rfl); done)); (try simp only [Act.put, List.getElem_toArray, List.getElem_cons_succ, List.getElem_cons_zero, List.setIfInBounds_toArray, List.set_cons_zero, List.set_cons_succ])
      refine takeF (i := 10) (v := ?_) rfl (by kernel_rfl) (fun _ _ _ h => h) (Or.inl ⟨by kernel_rfl, ?_⟩) (by assumption) ?_; rotate_left; (focus (intro w _; go_simp; (try with_reducible rfl); done)); (try simp only [Act.put, List.getElem_toArray, List.getElem_cons_succ, List.getElem_cons_zero, List.setIfInBounds_toArray, List.set_cons_zero, List.set_cons_succ])
      clear hHeld0
      refine doneS (by kernel_rfl) ?_ _
      have hxy : x = y := by cases x; cases y; simp only at j1 j2; subst j1 j2; rfl
      have h2 := HSt.out.2 hxy
      go_wp2
      exact ⟨⟨k + 1, by go_num, by omega, h2, HD.out⟩, by simp [intOf]; omega⟩
    all_goals
      refine takeF (i := 0) (v := ?_) rfl (by kernel_rfl) (fun _ _ _ h => h) (Or.inl ⟨by kernel_rfl, ?_⟩) (by assumption) ?_; rotate_left; (focus (intro w _; go_simp; (try with_reducible rfl); done)); (try simp only [Act.put, List.getElem_toArray, List.getElem_cons_succ, List.getElem_cons_zero, List.setIfInBounds_toArray, List.set_cons_zero, List.set_cons_succ])
      refine takeF (i := 1) (v := ?_) rfl (by kernel_rfl) (fun _ _ _ h => h) (Or.inl ⟨by kernel_rfl, ?_⟩) (by assumption) ?_; rotate_left; (focus (intro w _; go_simp; (try with_reducible rfl); done)); (try simp only [Act.put, List.getElem_toArray, List.getElem_cons_succ, List.getElem_cons_zero, List.setIfInBounds_toArray, List.set_cons_zero, List.set_cons_succ])
      refine takeH (i := 2) (v := ?_) rfl (by kernel_rfl) (fun _ _ _ h => h) (Or.inl ⟨by kernel_rfl, ?_⟩) (by assumption) ?_; rotate_left; (focus (intro w hSw; (try dsimp only at hSw); go_simp; (try with_reducible rfl); done)); (try simp only [Act.put, List.getElem_toArray, List.getElem_cons_succ, List.getElem_cons_zero, List.setIfInBounds_toArray, List.set_cons_zero, List.set_cons_succ])
      refine takeF (i := 3) (v := ?_) rfl (by kernel_rfl) (fun _ _ _ h => h) (Or.inl ⟨by kernel_rfl, ?_⟩) (by assumption) ?_; rotate_left; (focus (intro w _; go_simp; (try with_reducible rfl); done)); (try simp only [Act.put, List.getElem_toArray, List.getElem_cons_succ, List.getElem_cons_zero, List.setIfInBounds_toArray, List.set_cons_zero, List.set_cons_succ])
      refine takeF (i := 4) (v := ?_) rfl (by kernel_rfl) (fun _ _ _ h => h) (Or.inl ⟨by kernel_rfl, ?_⟩) (by assumption) ?_; rotate_left; (focus (intro w _; go_simp; (try with_reducible rfl); done)); (try simp only [Act.put, List.getElem_toArray, List.getElem_cons_succ, List.getElem_cons_zero, List.setIfInBounds_toArray, List.set_cons_zero, List.set_cons_succ])
      refine takeH (i := 5) (v := ?_) rfl (by kernel_rfl) (fun _ _ _ h => h) (Or.inl ⟨by kernel_rfl, ?_⟩) (by assumption) ?_; rotate_left; (focus (intro w hSw; (try dsimp only at hSw); go_simp; (try with_reducible rfl); done)); (try simp only [Act.put, List.getElem_toArray, List.getElem_cons_succ, List.getElem_cons_zero, List.setIfInBounds_toArray, List.set_cons_zero, List.set_cons_succ])
      refine takeF (i := 6) (v := ?_) rfl (by kernel_rfl) (fun _ _ _ h => h) (Or.inl ⟨by kernel_rfl, ?_⟩) (by assumption) ?_; rotate_left; (focus (intro w _; go_simp; (try with_reducible rfl); done)); (try simp only [Act.put, List.getElem_toArray, List.getElem_cons_succ, List.getElem_cons_zero, List.setIfInBounds_toArray, List.set_cons_zero, List.set_cons_succ])
      refine takeF (i := 7) (v := ?_) rfl (by kernel_rfl) (fun _ _ _ h => h) (Or.inl ⟨by kernel_rfl, ?_⟩) (by assumption) ?_; rotate_left; (focus (intro w _; go_simp; (try with_reducible rfl); done)); (try simp only [Act.put, List.getElem_toArray, List.getElem_cons_succ, List.getElem_cons_zero, List.setIfInBounds_toArray, List.set_cons_zero, List.set_cons_succ])
      refine takeF (i := 8) (v := ?_) rfl (by kernel_rfl) (fun _ _ _ h => h) (Or.inl ⟨by kernel_rfl, ?_⟩) (by assumption) ?_; rotate_left; (focus (intro w _; go_simp; (try with_reducible rfl); done)); (try simp only [Act.put, List.getElem_toArray, List.getElem_cons_succ, List.getElem_cons_zero, List.setIfInBounds_toArray, List.set_cons_zero, List.set_cons_succ])
      refine takeH (i := 9) (v := ?_) rfl (by kernel_rfl) (fun _ _ _ h => h) (Or.inl ⟨by kernel_rfl, ?_⟩) (by assumption) ?_; rotate_left; (focus (intro w hSw; (try dsimp only at hSw); go_simp; (try with_reducible rfl); done)); (try simp only [Act.put, List.getElem_toArray, List.getElem_cons_succ, List.getElem_cons_zero, List.setIfInBounds_toArray, List.set_cons_zero, List.set_cons_succ])
      refine takeF (i := 10) (v := ?_) rfl (by kernel_rfl) (fun _ _ _ h => h) (Or.inl ⟨by kernel_rfl, ?_⟩) (by assumption) ?_; rotate_left; (focus (intro w _; go_simp; (try with_reducible rfl); done)); (try simp only [Act.put, List.getElem_toArray, List.getElem_cons_succ, List.getElem_cons_zero, List.setIfInBounds_toArray, List.set_cons_zero, List.set_cons_succ])
      clear hHeld0
      refine doneS (by kernel_rfl) ?_ _
      have hxy : x ≠ y := fun e => by subst e; simp at j1 <;> simp at j2
      have h2 := HNe.out hxy
      go_wp2
      go_ret
      refine ⟨ret_bool ?_, below_up HA.out HD.out⟩
      rw [← HS.out]
      symm
      exact decide_eq_false h2
  · obtain rfl : k = l.length := by omega
    have d : decide (l.length < l.length) = false := decide_eq_false (by omega)
    have di : decide ((l.length : Int) < l.length) = false := decide_eq_false (by omega)
    go_wp2
    go_ret
    refine ⟨ret_bool ?_, below_up HA.out HBk.out⟩
    rw [← HS.out]
    symm
    rw [decide_eq_true_iff]
    have := HTk.out
    rw [List.take_length, ← hlen, List.take_length] at this
    exact this
end Go.Proofs.Ythpnlgdcijmocaa.Pl
