/- The walk over HeapSorts. -/
import Derived.Test.YtkjapmafipnmpaaIsSort
import Derived.Test.YtkjapmafipnmpaaH10
namespace Go.Proofs.Ytkjapmafipnmpaa.StI
open Go.RowKit Rg Hp St
set_option linter.unusedVariables false
set_option linter.unusedSimpArgs false
theorem lennil_ok (w : World) : Calls Try.prog 19 #[.pointer none] w fun e w' => e = .returned (.int .i64 0) ∧ w = w' := by
  go_enter Try.func19, Try.ntmps19
  go_wp2
  go_ret
  exact ⟨rfl, rfl⟩
theorem pushnil_ok (x : ItS) (w : World) : Calls Try.prog 16 #[.pointer none, iv4 x] w fun e w' => e = .returned (.tuple #[]) ∧ Below w.heap.size w w' := by
  obtain ⟨a, b, c, d⟩ := x
  go_enter Try.func16, Try.ntmps16
  go_wp2
  (try simp only [Exit.inBlock, Exit.then])
  refine bodyPost_ret (results_none rfl _ _ _) rfl ?_
  exact ⟨rfl, below_alloc1 _ _⟩
theorem info_itm : (Try.prog.info? 33).map (·.size) = some 4 := by kernel_rfl
theorem popnil_ok (w : World) : Calls Try.prog 18 #[.pointer none] w fun e w' => e = .returned (.tuple #[.agg #[.int .u64 0, .int .u64 0, .int .i64 0, .int .i64 0], .bool false]) ∧ Below w.heap.size w w' := by
  have HL := fun W => lennil_ok W
  have q := alloc_at (w := w) (.cells #[.int .u64 0, .int .u64 0, .int .i64 0, .int .i64 0] 33) rfl
  have HQ := Lib.hid q
  have hb := below_alloc1 w (.cells #[.int .u64 0, .int .u64 0, .int .i64 0, .int .i64 0] 33)
  have HB := Lib.hid hb
  clear hb q
  go_enter Try.func18, Try.ntmps18
  go_wp2_with fail
  generalize hw1 : World.alloc w _ = w1 at *
  clear hw1
  (with_reducible refine (HL _).mono ?_); rintro e w2 ⟨rfl, hw⟩
  subst hw
  have c0 : w1.cell? ⟨w.heap.size, 0, none⟩ = some (.int .u64 0) := by rw [cell_block HQ.out]; rfl
  have c1 : w1.cell? ⟨w.heap.size, 1, none⟩ = some (.int .u64 0) := by rw [cell_block HQ.out]; rfl
  have c2 : w1.cell? ⟨w.heap.size, 2, none⟩ = some (.int .i64 0) := by rw [cell_block HQ.out]; rfl
  have c3 : w1.cell? ⟨w.heap.size, 3, none⟩ = some (.int .i64 0) := by rw [cell_block HQ.out]; rfl
  have f0 := free_block HQ.out 0
  have f1 := free_block HQ.out 1
  have f2 := free_block HQ.out 2
  have f3 := free_block HQ.out 3
  go_wp2
  have hq := blk_set (blk_set (blk_set (blk_set HQ.out 0 (.int .u64 0)) 1 (.int .u64 0)) 2 (.int .i64 0)) 3 (.int .i64 0)
  refine bodyPost_ret (v := .tuple #[.agg #[.int .u64 0, .int .u64 0, .int .i64 0, .int .i64 0], .bool false]) (results_cell_tmp (p := 2) (t := 3) rfl _ _ w.heap.size _ _ (0, 0) _ rfl hq Try.underlying33 rfl info_itm _ rfl) rfl ⟨rfl, ?_⟩
  exact (((HB.out.setCell (p := ⟨w.heap.size, 0, none⟩) (Nat.le_refl _) _).setCell (p := ⟨w.heap.size, 1, none⟩) (Nat.le_refl _) _).setCell (p := ⟨w.heap.size, 2, none⟩) (Nat.le_refl _) _).setCell (p := ⟨w.heap.size, 3, none⟩) (Nat.le_refl _) _
theorem eqlI (x y : ItS) (w : World) : (binOp .eql 33 (iv4 x) (iv4 y)).run Try.prog w = .ok (.bool (decide (x = y))) w := by
  have e : decide (x = y) = ((((x.hi : Int) == (y.hi : Int)) && ((x.lo : Int) == (y.lo : Int))) && ((x.od == y.od) && (x.id == y.id))) := by
    rw [Bool.eq_iff_iff, decide_eq_true_iff]
    obtain ⟨a, b, c, d⟩ := x
    obtain ⟨a', b', c', d'⟩ := y
    simp only [Bool.and_eq_true, beq_iff_eq, ItS.mk.injEq]
    omega
  rw [e]
  refine eql_of (eqs_of Try.underlying33 (by kernel_rfl) ?_)
  refine eqf_cons (by rfl) (by go_simp; rfl) (by go_simp; rfl) ?_ ?_
  · refine eqs_of Try.underlying31 (by kernel_rfl) ?_
    refine eqf_cons (by rfl) (by go_simp; rfl) (by go_simp; rfl) (by go_simp) ?_
    exact eqf_last (by rfl) (by go_simp; rfl) (by go_simp; rfl) (by go_simp)
  · refine eqf_cons (by rfl) (by go_simp; rfl) (by go_simp; rfl) (by go_simp) ?_
    exact eqf_last (by rfl) (by go_simp; rfl) (by go_simp; rfl) (by go_simp)
theorem cells4 {W : World} {g : Nat} {a b c d : Value} {t : TypeId} {f : Nat × Nat} (h : W.heap[g]? = some (.cells #[a, b, c, d] t f)) : W.cell? ⟨g, 0, none⟩ = some a ∧ W.cell? ⟨g, 1, none⟩ = some b ∧ W.cell? ⟨g, 2, none⟩ = some c ∧ W.cell? ⟨g, 3, none⟩ = some d := by
  refine ⟨?_, ?_, ?_, ?_⟩ <;> (rw [cell_block h]; rfl)
def cntI (y : ItS) (l : List ItS) : Nat := l.countP (fun x => decide (x = y))
theorem cntI_step (y : ItS) {l : List ItS} {k : Nat} (h : k < l.length) : cntI y (l.take (k + 1)) = cntI y (l.take k) + (if l[k] = y then 1 else 0) := by
  rw [List.take_succ_eq_append_getElem h]
  unfold cntI
  rw [List.countP_append, List.countP_singleton]
  simp
abbrev AtI (W : World) (g o k : Nat) (x : ItS) : Prop := W.cell? ⟨g, o + k * 4, none⟩ = some (.int .u64 (x.hi : Nat)) ∧ W.cell? ⟨g, o + k * 4 + 1, none⟩ = some (.int .u64 (x.lo : Nat)) ∧ W.cell? ⟨g, o + k * 4 + 2, none⟩ = some (.int .i64 x.od) ∧ W.cell? ⟨g, o + k * 4 + 3, none⟩ = some (.int .i64 x.id)
theorem byLt_len (L : List ItS) : (byLt L).length = L.length := sort_len' L where
  sort_len' (L : List ItS) : (byLt L).length = L.length := (List.mergeSort_perm _ _).length_eq
theorem byLt_ris (L : List ItS) {i : Nat} (h : i + 1 < (byLt L).length) : ¬ ItS.Lt (byLt L)[i + 1] (byLt L)[i] := by
  have hp : (byLt L).Pairwise (fun a b => (!ltc cmpS b a) = true) := List.pairwise_mergeSort (le := fun a b => !ltc cmpS b a) (fun a b c h1 h2 => by
    simp only [Bool.not_eq_true'] at *
    exact swo_lt.ntrans _ _ _ h1 h2) (fun a b => by
    cases h : ltc cmpS b a with
    | false => rfl
    | true => rw [swo_lt.asymm _ _ h]; rfl) L
  have := List.pairwise_iff_getElem.1 hp i (i + 1) (by omega) h (by omega)
  rw [ltc_lt] at this
  simpa using this
set_option maxHeartbeats 8000000 in
set_option maxRecDepth 100000 in
theorem hsorts_walk (v : Value) (l : List ItS) (a b : ItS) (w : World) (hv : IRow w v l) (hl : l.length ≤ 4398046511103) :
    Calls Try.prog 14 #[v, iv4 a, iv4 b] w fun e w' => e = .returned (.bool true) ∧ Below w.heap.size w w' := by
  obtain ⟨wA, hwA⟩ : ∃ W, ((w.alloc (.cells a.cells.toArray 33)).alloc (.cells b.cells.toArray 33)) = W := ⟨_, rfl⟩
  have s1 : (w.alloc (.cells a.cells.toArray 33)).heap.size = w.heap.size + 1 := by unfold World.alloc; simp
  have HG : Hid (wA.heap[w.heap.size]? = some (.cells a.cells.toArray 33 (0, 0))) := Lib.hid (by rw [← hwA]; exact alloc_old (alloc_at (w := w) _ rfl) _)
  have HP : Hid (wA.heap[w.heap.size + 1]? = some (.cells b.cells.toArray 33 (0, 0))) := Lib.hid (by rw [← hwA]; exact alloc_at _ s1.symm)
  have HA : Hid (Below w.heap.size w wA) := Lib.hid (by rw [← hwA]; exact below_alloc (below_alloc1 w _) _)
  have HV0 := Lib.hid hv
  have HAl := fun W => Hp.alive_ok W
  obtain ⟨Al, cl, rfl, hcl, _⟩ := hv
  obtain ⟨a1, a2, a3, a4⟩ := a
  obtain ⟨b1, b2, b3, b4⟩ := b
  clear s1
  simp only [ItS.cells] at hwA HG HP
  go_enter Try.func14, Try.ntmps14
  go_wp2_with fail
  clear hwA
  (with_reducible refine (HAl _).mono ?_); rintro e w2 ⟨rfl, hb⟩
  have HG2 := Lib.hid (block_up HG.out hb); have HP2 := Lib.hid (block_up HP.out hb); have HA2 := Lib.hid (below_up HA.out hb)
  clear hb HAl HG HP HA
  go_upto_if 19 with (fail)
  obtain ⟨L, hL⟩ : ∃ L, l.take 60 = L := ⟨_, rfl⟩
  have HV : Hid (IRow w (.slice Al L.length cl) L ∧ L.length ≤ 60) := Lib.hid (by
    rw [← hL]
    by_cases h : 60 < l.length
    · rw [show (l.take 60).length = 60 by simp; omega]
      exact ⟨SRd.take HV0.out ItS.cells_len (by omega) cl (by omega), Nat.le_refl _⟩
    · rw [List.take_of_length_le (by omega)]
      exact ⟨HV0.out, by omega⟩)
  go_cut [0] from 19 to 21 (fun v3 wx => v3 = .slice Al L.length cl ∧ wx = w2)
  case first =>
    by_cases h : 60 < l.length
    · have d1 : decide (60 < l.length) = true := decide_eq_true h
      have d2 : decide ((l.length : Int) > 60) = true := decide_eq_true (by omega)
      have hc : 60 ≤ cl := by omega
      have e : L.length = 60 := by rw [← hL]; simp; omega
      go_wp2
      go_meet
      case rel => exact ⟨by rw [e], rfl⟩
    · have d1 : decide (60 < l.length) = false := decide_eq_false h
      have d2 : decide ((l.length : Int) > 60) = false := decide_eq_false (by omega)
      have e : L.length = l.length := by rw [← hL]; simp; omega
      go_wp2
      go_meet
      case rel => exact ⟨by rw [e], rfl⟩
  case rest =>
  obtain ⟨rfl, hw⟩ := hcut
  replace hw := hw.symm; subst hw
  clear hL HV0 hl hcl
  have hL60 := HV.out.2
  have HSr := Lib.hid (hsorted_ok (.slice Al L.length cl) L w2 (HV.out.1.below HA2.out) (by omega))
  go_wp2_with fail
  (with_reducible refine HSr.out.mono ?_); rintro e w3 ⟨v3, rfl, ho, hb⟩
  have HG3 := Lib.hid (block_up HG2.out hb); have HP3 := Lib.hid (block_up HP2.out hb); have HA3 := Lib.hid (below_up HA2.out hb)
  have HO : Hid (IRow w3 v3 (byLt L)) := Lib.hid (srd_own ItS.cells_len (by decide) ho)
  clear ho hb HSr HG2 HP2 HA2
  obtain ⟨s, hs⟩ : ∃ s, byLt L = s := ⟨_, rfl⟩
  have HPm : Hid (s.Perm L) := Lib.hid (hs ▸ List.mergeSort_perm _ _)
  have HRs : Hid (∀ i (h : i + 1 < s.length), ¬ ItS.Lt s[i + 1] s[i]) := Lib.hid (by subst hs; exact fun i h => byLt_ris L h)
  have hsl : s.length = L.length := HPm.out.length_eq
  rw [hs] at HO
  clear hs
  obtain ⟨As, cs, rfl, _, _⟩ := id HO.out
  have dl : ((s.length : Int) != L.length) = false := by rw [bne_eq_false_iff_eq]; omega
  have dl2 : (s.length != L.length) = false := by rw [bne_eq_false_iff_eq]; omega
  have hs60 : s.length ≤ 60 := by omega
  have HSl := Lib.hid hsl
  clear hsl
  obtain ⟨R, hR⟩ : ∃ r, decide (ItS.Lt ⟨a1, a2, a3, a4⟩ ⟨b1, b2, b3, b4⟩) = r := ⟨_, rfl⟩
  have HLs := fun W => less_ok ⟨a1, a2, a3, a4⟩ ⟨b1, b2, b3, b4⟩ W
  have HLS := fun W => Less_ok ⟨a1, a2, a3, a4⟩ ⟨b1, b2, b3, b4⟩ W
  have HWc := fun W => wcmp_ok a1 a2 a1 a2 W
  rw [hR] at HLs HLS
  have h0 : orL [cmpI (a1 : Int) a1, cmpI (a2 : Int) a2] = 0 := by simp [orL, Hp.cmpI]
  rw [h0] at HWc
  have HLL := Lib.hid (And.intro HLs (And.intro HLS HWc))
  clear HLs HLS HWc hR h0
  go_upto_region 6 with (fail)
  have HQ : Hid (∀ W', Below w3.heap.size w3 W' → (W'.cell? ⟨w.heap.size, 0, none⟩ = some (.int .u64 (a1 : Nat)) ∧ W'.cell? ⟨w.heap.size, 1, none⟩ = some (.int .u64 (a2 : Nat)) ∧ W'.cell? ⟨w.heap.size, 2, none⟩ = some (.int .i64 a3) ∧ W'.cell? ⟨w.heap.size, 3, none⟩ = some (.int .i64 a4)) ∧ (W'.cell? ⟨w.heap.size + 1, 0, none⟩ = some (.int .u64 (b1 : Nat)) ∧ W'.cell? ⟨w.heap.size + 1, 1, none⟩ = some (.int .u64 (b2 : Nat)) ∧ W'.cell? ⟨w.heap.size + 1, 2, none⟩ = some (.int .i64 b3) ∧ W'.cell? ⟨w.heap.size + 1, 3, none⟩ = some (.int .i64 b4))) := Lib.hid (fun W' hb => ⟨cells4 (block_up HG3.out hb), cells4 (block_up HP3.out hb)⟩)
  have HD := Lib.hid (below_drew1 (w := w3))
  refine beginS (S := fun W' => (W'.cell? ⟨w.heap.size, 0, none⟩ = some (.int .u64 (a1 : Nat)) ∧ W'.cell? ⟨w.heap.size, 1, none⟩ = some (.int .u64 (a2 : Nat)) ∧ W'.cell? ⟨w.heap.size, 2, none⟩ = some (.int .i64 a3) ∧ W'.cell? ⟨w.heap.size, 3, none⟩ = some (.int .i64 a4)) ∧ (W'.cell? ⟨w.heap.size + 1, 0, none⟩ = some (.int .u64 (b1 : Nat)) ∧ W'.cell? ⟨w.heap.size + 1, 1, none⟩ = some (.int .u64 (b2 : Nat)) ∧ W'.cell? ⟨w.heap.size + 1, 2, none⟩ = some (.int .i64 b3) ∧ W'.cell? ⟨w.heap.size + 1, 3, none⟩ = some (.int .i64 b4))) [] (by kernel_rfl) (HQ.out _ HD.out) (fun hHeld0 => ?_)
  generalize (World.drew w3) = W0 at *
  refine takeF (i := 0) (v := ?_) rfl (by kernel_rfl) (fun _ _ _ h => h) (Or.inl ⟨by kernel_rfl, ?_⟩) (by assumption) ?_; rotate_left; (focus (intro w _; go_simp; (try with_reducible rfl); done)); (try simp only [Act.put, List.getElem_toArray, List.getElem_cons_succ, List.getElem_cons_zero, List.setIfInBounds_toArray, List.set_cons_zero, List.set_cons_succ])
  refine takeF (i := 1) (v := ?_) rfl (by kernel_rfl) (fun _ _ _ h => h) (Or.inl ⟨by kernel_rfl, ?_⟩) (by assumption) ?_; rotate_left; (focus (intro w _; go_simp; (try with_reducible rfl); done)); (try simp only [Act.put, List.getElem_toArray, List.getElem_cons_succ, List.getElem_cons_zero, List.setIfInBounds_toArray, List.set_cons_zero, List.set_cons_succ])
  refine takeF (i := 2) (v := ?_) rfl (by kernel_rfl) (fun _ _ _ h => h) (Or.inl ⟨by kernel_rfl, ?_⟩) (by assumption) ?_; rotate_left; (focus (intro w _; go_simp; (try with_reducible rfl); done)); (try simp only [Act.put, List.getElem_toArray, List.getElem_cons_succ, List.getElem_cons_zero, List.setIfInBounds_toArray, List.set_cons_zero, List.set_cons_succ])
  refine takeF (i := 3) (v := ?_) rfl (by kernel_rfl) (fun _ _ _ h => h) (Or.inl ⟨by kernel_rfl, ?_⟩) (by assumption) ?_; rotate_left; (focus (intro w _; go_simp; (try with_reducible rfl); done)); (try simp only [Act.put, List.getElem_toArray, List.getElem_cons_succ, List.getElem_cons_zero, List.setIfInBounds_toArray, List.set_cons_zero, List.set_cons_succ])
  refine takeF (i := 4) (v := ?_) rfl (by kernel_rfl) (fun _ _ _ h => h) (Or.inl ⟨by kernel_rfl, ?_⟩) (by assumption) ?_; rotate_left; (focus (intro w _; go_simp; (try with_reducible rfl); done)); (try simp only [Act.put, List.getElem_toArray, List.getElem_cons_succ, List.getElem_cons_zero, List.setIfInBounds_toArray, List.set_cons_zero, List.set_cons_succ])
  refine takeF (i := 5) (v := ?_) rfl (by kernel_rfl) (fun _ _ _ h => h) (Or.inl ⟨by kernel_rfl, ?_⟩) (by assumption) ?_; rotate_left; (focus (intro w _; go_simp; (try with_reducible rfl); done)); (try simp only [Act.put, List.getElem_toArray, List.getElem_cons_succ, List.getElem_cons_zero, List.setIfInBounds_toArray, List.set_cons_zero, List.set_cons_succ])
  refine takeH (i := 6) (v := ?_) rfl (by kernel_rfl) (fun _ _ _ h => h) (Or.inl ⟨by kernel_rfl, ?_⟩) (by assumption) ?_; rotate_left; (focus (intro w hSw; (try dsimp only at hSw); go_simp; (try with_reducible rfl); done)); (try simp only [Act.put, List.getElem_toArray, List.getElem_cons_succ, List.getElem_cons_zero, List.setIfInBounds_toArray, List.set_cons_zero, List.set_cons_succ])
  refine takeH (i := 7) (v := ?_) rfl (by kernel_rfl) (fun _ _ _ h => h) (Or.inl ⟨by kernel_rfl, ?_⟩) (by assumption) ?_; rotate_left; (focus (intro w hSw; (try dsimp only at hSw); go_simp; (try with_reducible rfl); done)); (try simp only [Act.put, List.getElem_toArray, List.getElem_cons_succ, List.getElem_cons_zero, List.setIfInBounds_toArray, List.set_cons_zero, List.set_cons_succ])
  refine takeH (i := 9) (v := ?_) rfl (by kernel_rfl) (fun _ _ _ h => h) (Or.inl ⟨by kernel_rfl, ?_⟩) (by assumption) ?_; rotate_left; (focus (intro w hSw; (try dsimp only at hSw); go_simp; (try with_reducible rfl); done)); (try simp only [Act.put, List.getElem_toArray, List.getElem_cons_succ, List.getElem_cons_zero, List.setIfInBounds_toArray, List.set_cons_zero, List.set_cons_succ])
  refine takeH (i := 10) (v := ?_) rfl (by kernel_rfl) (fun _ _ _ h => h) (Or.inl ⟨by kernel_rfl, ?_⟩) (by assumption) ?_; rotate_left; (focus (intro w hSw; (try dsimp only at hSw); go_simp; (try with_reducible rfl); done)); (try simp only [Act.put, List.getElem_toArray, List.getElem_cons_succ, List.getElem_cons_zero, List.setIfInBounds_toArray, List.set_cons_zero, List.set_cons_succ])
  clear hHeld0
  refine readyS (rs := [8]) (by kernel_rfl) (by simp) ?_
  refine ReadyS.consH rfl (fun K hK => ?_) ReadyS.nil
  (try simp only [List.getElem_toArray, List.getElem_cons_succ, List.getElem_cons_zero])
  go_simp
  (with_reducible refine (HLL.out.2.1 _).mono ?_); rintro e W1 ⟨rfl, hb⟩
  have HD1 := Lib.hid (below_up HD.out hb); clear hb
  refine hK.out _ _ (HQ.out _ HD1.out) (fun hHeld => ?_)
  clear hK K
  (try simp only [Act.put, List.getElem_toArray, List.getElem_cons_succ, List.getElem_cons_zero, List.setIfInBounds_toArray, List.set_cons_zero, List.set_cons_succ])
  clear hHeld
  refine readyS (rs := [11]) (by kernel_rfl) (by simp) ?_
  refine ReadyS.consH rfl (fun K hK => ?_) ReadyS.nil
  (try simp only [List.getElem_toArray, List.getElem_cons_succ, List.getElem_cons_zero])
  go_simp
  (with_reducible refine (HLL.out.1 _).mono ?_); rintro e W2 ⟨rfl, hb⟩
  have HD2 := Lib.hid (below_up HD1.out hb); clear hb
  refine hK.out _ _ (HQ.out _ HD2.out) (fun hHeld => ?_)
  clear hK K
  (try simp only [Act.put, List.getElem_toArray, List.getElem_cons_succ, List.getElem_cons_zero, List.setIfInBounds_toArray, List.set_cons_zero, List.set_cons_succ])
  refine takeF (i := 12) (v := ?_) rfl (by kernel_rfl) (fun _ _ _ h => h) (Or.inl ⟨by kernel_rfl, ?_⟩) (by assumption) ?_; rotate_left; (focus (intro w _; go_simp; (try with_reducible rfl); done)); (try simp only [Act.put, List.getElem_toArray, List.getElem_cons_succ, List.getElem_cons_zero, List.setIfInBounds_toArray, List.set_cons_zero, List.set_cons_succ])
  refine takeF (i := 13) (v := ?_) rfl (by kernel_rfl) (fun _ _ _ h => h) (Or.inl ⟨by kernel_rfl, ?_⟩) (by assumption) ?_; rotate_left; (focus (intro w _; go_simp; (try with_reducible rfl); done)); (try simp only [Act.put, List.getElem_toArray, List.getElem_cons_succ, List.getElem_cons_zero, List.setIfInBounds_toArray, List.set_cons_zero, List.set_cons_succ])
  refine takeF (i := 14) (v := ?_) rfl (by kernel_rfl) (fun _ _ _ h => h) (Or.inl ⟨by kernel_rfl, ?_⟩) (by assumption) ?_; rotate_left; (focus (intro w _; go_simp; (try with_reducible rfl); done)); (try simp only [Act.put, List.getElem_toArray, List.getElem_cons_succ, List.getElem_cons_zero, List.setIfInBounds_toArray, List.set_cons_zero, List.set_cons_succ])
  refine takeF (i := 15) (v := ?_) rfl (by kernel_rfl) (fun _ _ _ h => h) (Or.inl ⟨by kernel_rfl, ?_⟩) (by assumption) ?_; rotate_left; (focus (intro w _; go_simp; (try with_reducible rfl); done)); (try simp only [Act.put, List.getElem_toArray, List.getElem_cons_succ, List.getElem_cons_zero, List.setIfInBounds_toArray, List.set_cons_zero, List.set_cons_succ])
  refine takeH (i := 16) (v := ?_) rfl (by kernel_rfl) (fun _ _ _ h => h) (Or.inl ⟨by kernel_rfl, ?_⟩) (by assumption) ?_; rotate_left; (focus (intro w hSw; (try dsimp only at hSw); go_simp; (try with_reducible rfl); done)); (try simp only [Act.put, List.getElem_toArray, List.getElem_cons_succ, List.getElem_cons_zero, List.setIfInBounds_toArray, List.set_cons_zero, List.set_cons_succ])
  refine takeF (i := 17) (v := ?_) rfl (by kernel_rfl) (fun _ _ _ h => h) (Or.inl ⟨by kernel_rfl, ?_⟩) (by assumption) ?_; rotate_left; (focus (intro w _; go_simp; (try with_reducible rfl); done)); (try simp only [Act.put, List.getElem_toArray, List.getElem_cons_succ, List.getElem_cons_zero, List.setIfInBounds_toArray, List.set_cons_zero, List.set_cons_succ])
  refine takeH (i := 18) (v := ?_) rfl (by kernel_rfl) (fun _ _ _ h => h) (Or.inl ⟨by kernel_rfl, ?_⟩) (by assumption) ?_; rotate_left; (focus (intro w hSw; (try dsimp only at hSw); go_simp; (try with_reducible rfl); done)); (try simp only [Act.put, List.getElem_toArray, List.getElem_cons_succ, List.getElem_cons_zero, List.setIfInBounds_toArray, List.set_cons_zero, List.set_cons_succ])
  clear hHeld
  refine readyS (rs := [19]) (by kernel_rfl) (by simp) ?_
  refine ReadyS.consH rfl (fun K hK => ?_) ReadyS.nil
  (try simp only [List.getElem_toArray, List.getElem_cons_succ, List.getElem_cons_zero])
  go_simp
  (with_reducible refine (HLL.out.2.2 _).mono ?_); rintro e W3 ⟨rfl, hb⟩
  have HD3 := Lib.hid (below_up HD2.out hb); clear hb
  refine hK.out _ _ (HQ.out _ HD3.out) (fun hHeld => ?_)
  clear hK K
  (try simp only [Act.put, List.getElem_toArray, List.getElem_cons_succ, List.getElem_cons_zero, List.setIfInBounds_toArray, List.set_cons_zero, List.set_cons_succ])
  refine takeF (i := 20) (v := ?_) rfl (by kernel_rfl) (fun _ _ _ h => h) (Or.inl ⟨by kernel_rfl, ?_⟩) (by assumption) ?_; rotate_left; (focus (intro w _; go_simp; (try with_reducible rfl); done)); (try simp only [Act.put, List.getElem_toArray, List.getElem_cons_succ, List.getElem_cons_zero, List.setIfInBounds_toArray, List.set_cons_zero, List.set_cons_succ])
  refine takeF (i := 21) (v := ?_) rfl (by kernel_rfl) (fun _ _ _ h => h) (Or.inl ⟨by kernel_rfl, ?_⟩) (by assumption) ?_; rotate_left; (focus (intro w _; go_simp; (try with_reducible rfl); done)); (try simp only [Act.put, List.getElem_toArray, List.getElem_cons_succ, List.getElem_cons_zero, List.setIfInBounds_toArray, List.set_cons_zero, List.set_cons_succ])
  clear hHeld
  refine doneS (by kernel_rfl) ?_ _
  clear dl dl2
  have HB3 := Lib.hid (below_up HA3.out HD3.out)
  go_wp2_with fail
  go_loopw [8] (fun vi W' => ∃ i : Nat, vi = .int .i64 i ∧ i ≤ s.length ∧ Below W3.heap.size W3 W') (fun vi _ => s.length - (intOf vi).toNat)
  case atStart => exact ⟨0, rfl, Nat.zero_le _, Below.refl _ _⟩
  case round =>
  obtain ⟨i, rfl, hi, hb⟩ := hrel
  have HBi := Lib.hid hb
  clear hb
  obtain ⟨w5, rfl⟩ : ∃ W, W = wr := ⟨_, rfl⟩
  by_cases hlt : i < s.length
  · have d : decide (i < s.length) = true := decide_eq_true hlt
    have di : decide ((i : Int) < s.length) = true := decide_eq_true (by omega)
    have bi : (i : Int) < s.length := by omega
    obtain ⟨y, hy⟩ : ∃ y, s[i] = y := ⟨_, rfl⟩
    have HY := Lib.hid hy
    clear hy
    go_wp2_with fail
    go_loopw [9, 10, 11] (fun vn vm vk W' => ∃ k : Nat, vk = .int .i64 k ∧ k ≤ s.length ∧ vn = .int .i64 (cntI y (s.take k) : Nat) ∧ vm = .int .i64 (cntI y (L.take k) : Nat) ∧ Below w5.heap.size w5 W') (fun _ _ vk _ => s.length - (intOf vk).toNat)
    case atStart => exact ⟨0, rfl, Nat.zero_le _, rfl, rfl, Below.refl _ _⟩
    case round =>
    obtain ⟨k, rfl, hk, hvn, hvm, hb⟩ := hrel
    have HBk := Lib.hid hb
    clear hb
    have hcn : cntI y (s.take k) ≤ k := Nat.le_trans List.countP_le_length (by rw [List.length_take]; omega)
    have hcm : cntI y (L.take k) ≤ k := Nat.le_trans List.countP_le_length (by rw [List.length_take]; omega)
    by_cases hkl : k < s.length
    · have d1 : decide (k < s.length) = true := decide_eq_true hkl
      have d1i : decide ((k : Int) < s.length) = true := decide_eq_true (by omega)
      have hkL : k < L.length := by rw [← HSl.out]; exact hkl
      have bk : (k : Int) < s.length := by omega
      have bkL : (k : Int) < L.length := by omega
      have hst1 := cntI_step y hkl
      have hst2 := cntI_step y hkL
      obtain ⟨N1, hN1⟩ : ∃ n, cntI y (s.take k) = n := ⟨_, rfl⟩
      obtain ⟨M1, hM1⟩ : ∃ n, cntI y (L.take k) = n := ⟨_, rfl⟩
      rw [hN1] at hvn hst1 hcn
      rw [hM1] at hvm hst2 hcm
      subst hvn hvm
      have hq1 := eqlI s[k] y
      have hq2 := eqlI L[k] y
      have hbase := below_up (below_up HB3.out HBi.out) HBk.out
      have HAt : Hid (∀ W', Below wr.heap.size wr W' → ∃ g o g2 o2, As = some ⟨g, o, none⟩ ∧ Al = some ⟨g2, o2, none⟩ ∧ AtI W' g o k s[k] ∧ AtI W' g o i y ∧ AtI W' g2 o2 k L[k]) := Lib.hid (fun W' hb => by
        have hrow := (HO.out.below (below_up HD3.out HBi.out)).below (below_up HBk.out hb)
        obtain ⟨g, o, e1, f1⟩ := ir_at hrow hkl
        obtain ⟨g', o', e1', f1'⟩ := ir_at hrow hlt
        obtain ⟨g2, o2, e2, f2⟩ := ir_at (HV.out.1.below (below_up hbase hb)) hkL
        rw [e1] at e1'
        cases e1'
        rw [HY.out] at f1'
        exact ⟨g, o, g2, o2, e1, e2, f1, f1', f2⟩)
      have hc1 : (if s[k] = y then 1 else 0) = (if decide (s[k] = y) = true then 1 else 0) := by simp
      have hc2 : (if L[k] = y then 1 else 0) = (if decide (L[k] = y) = true then 1 else 0) := by simp
      rw [hc1] at hst1
      rw [hc2] at hst2
      obtain ⟨q1, hq1e⟩ : ∃ q, decide (s[k] = y) = q := ⟨_, rfl⟩
      obtain ⟨q2, hq2e⟩ : ∃ q, decide (L[k] = y) = q := ⟨_, rfl⟩
      rw [hq1e] at hst1 hq1
      rw [hq2e] at hst2 hq2
      clear hq1e hq2e hc1 hc2 hN1 hM1 hbase
      generalize s[k] = x1 at *
      generalize L[k] = x2 at *
      have HS1 := Lib.hid hst1
      have HS2 := Lib.hid hst2
      clear hst1 hst2
      obtain ⟨g, o, g2, o2, rfl, rfl, _⟩ := HAt.out wr (Below.refl _ _)
      have HAt2 : Hid (∀ W', Below wr.heap.size wr W' → AtI W' g o k x1 ∧ AtI W' g o i y ∧ AtI W' g2 o2 k x2) := Lib.hid (fun W' hb => by
        obtain ⟨g', o', g2', o2', e1, e2, h⟩ := HAt.out W' hb
        cases e1; cases e2
        exact h)
      clear HAt
      have kn : IntKind.i64.wrap ((N1 : Int) + 1) = ((N1 + 1 : Nat) : Int) := by rw [IntWalk.i64_in _ (by omega)]; omega
      have kmm : IntKind.i64.wrap ((M1 : Int) + 1) = ((M1 + 1 : Nat) : Int) := by rw [IntWalk.i64_in _ (by omega)]; omega
      go_upto_region 15 with (fail)
      have HDa := Lib.hid (below_drew1 (w := wr))
      refine beginS (S := fun W => AtI W g o k x1 ∧ AtI W g o i y) [] (by kernel_rfl) ⟨(HAt2.out _ HDa.out).1, (HAt2.out _ HDa.out).2.1⟩ (fun hHeld0 => ?_)
      generalize (World.drew wr) = Wa at *
      refine takeF (i := 0) (v := ?_) rfl (by kernel_rfl) (fun _ _ _ h => h) (Or.inl ⟨by kernel_rfl, ?_⟩) (by assumption) ?_; rotate_left; (focus (intro w _; go_simp; (try with_reducible rfl); done)); (try simp only [Act.put, List.getElem_toArray, List.getElem_cons_succ, List.getElem_cons_zero, List.setIfInBounds_toArray, List.set_cons_zero, List.set_cons_succ])
      refine takeF (i := 1) (v := ?_) rfl (by kernel_rfl) (fun _ _ _ h => h) (Or.inl ⟨by kernel_rfl, ?_⟩) (by assumption) ?_; rotate_left; (focus (intro w _; go_simp; (try with_reducible rfl); done)); (try simp only [Act.put, List.getElem_toArray, List.getElem_cons_succ, List.getElem_cons_zero, List.setIfInBounds_toArray, List.set_cons_zero, List.set_cons_succ])
      refine takeF (i := 2) (v := ?_) rfl (by kernel_rfl) (fun _ _ _ h => h) (Or.inl ⟨by kernel_rfl, ?_⟩) (by assumption) ?_; rotate_left; (focus (intro w _; go_simp; (try with_reducible rfl); done)); (try simp only [Act.put, List.getElem_toArray, List.getElem_cons_succ, List.getElem_cons_zero, List.setIfInBounds_toArray, List.set_cons_zero, List.set_cons_succ])
      refine takeH (i := 3) (v := ?_) rfl (by kernel_rfl) (fun _ _ _ h => h) (Or.inl ⟨by kernel_rfl, ?_⟩) (by assumption) ?_; rotate_left; (focus (intro w hSw; (try dsimp only at hSw); go_simp; (try with_reducible rfl); done)); (try simp only [Act.put, List.getElem_toArray, List.getElem_cons_succ, List.getElem_cons_zero, List.setIfInBounds_toArray, List.set_cons_zero, List.set_cons_succ])
      refine takeF (i := 4) (v := ?_) rfl (by kernel_rfl) (fun _ _ _ h => h) (Or.inl ⟨by kernel_rfl, ?_⟩) (by assumption) ?_; rotate_left; (focus (intro w _; go_simp; (try with_reducible rfl); done)); (try simp only [Act.put, List.getElem_toArray, List.getElem_cons_succ, List.getElem_cons_zero, List.setIfInBounds_toArray, List.set_cons_zero, List.set_cons_succ])
      refine takeF (i := 5) (v := ?_) rfl (by kernel_rfl) (fun _ _ _ h => h) (Or.inl ⟨by kernel_rfl, ?_⟩) (by assumption) ?_; rotate_left; (focus (intro w _; go_simp; (try with_reducible rfl); done)); (try simp only [Act.put, List.getElem_toArray, List.getElem_cons_succ, List.getElem_cons_zero, List.setIfInBounds_toArray, List.set_cons_zero, List.set_cons_succ])
      refine takeF (i := 6) (v := ?_) rfl (by kernel_rfl) (fun _ _ _ h => h) (Or.inl ⟨by kernel_rfl, ?_⟩) (by assumption) ?_; rotate_left; (focus (intro w _; go_simp; (try with_reducible rfl); done)); (try simp only [Act.put, List.getElem_toArray, List.getElem_cons_succ, List.getElem_cons_zero, List.setIfInBounds_toArray, List.set_cons_zero, List.set_cons_succ])
      refine takeH (i := 7) (v := ?_) rfl (by kernel_rfl) (fun _ _ _ h => h) (Or.inl ⟨by kernel_rfl, ?_⟩) (by assumption) ?_; rotate_left; (focus (intro w hSw; (try dsimp only at hSw); go_simp; (try with_reducible rfl); done)); (try simp only [Act.put, List.getElem_toArray, List.getElem_cons_succ, List.getElem_cons_zero, List.setIfInBounds_toArray, List.set_cons_zero, List.set_cons_succ])
      refine takeF (i := 8) (v := ?_) rfl (by kernel_rfl) (fun _ _ _ h => h) (Or.inl ⟨by kernel_rfl, ?_⟩) (by assumption) ?_; rotate_left; (focus (intro w _; go_simp; (try with_reducible rfl); done)); (try simp only [Act.put, List.getElem_toArray, List.getElem_cons_succ, List.getElem_cons_zero, List.setIfInBounds_toArray, List.set_cons_zero, List.set_cons_succ])
      clear hHeld0
      refine doneS (by kernel_rfl) ?_ _
      go_upto_if 66 with (fail)
      go_cut [9] from 67 to 68 (fun vn wx => vn = .int .i64 ((N1 + (if q1 = true then 1 else 0) : Nat) : Int) ∧ wx = Wa)
      case first =>
        cases q1 with
        | true =>
          go_wp2
          go_meet
          case rel => exact ⟨by simp, rfl⟩
        | false =>
          go_wp2
          go_meet
          case rel => exact ⟨by simp, rfl⟩
      case rest =>
      obtain ⟨rfl, hwc⟩ := hcut
      replace hwc := hwc.symm; subst hwc
      go_upto_region 17 with (fail)
      have HDb := Lib.hid (below_up HDa.out (below_drew1 (w := Wa)))
      refine beginS (S := fun W => AtI W g2 o2 k x2 ∧ AtI W g o i y) [] (by kernel_rfl) ⟨(HAt2.out _ HDb.out).2.2, (HAt2.out _ HDb.out).2.1⟩ (fun hHeld0 => ?_)
      generalize (World.drew Wa) = Wb at *
      refine takeF (i := 0) (v := ?_) rfl (by kernel_rfl) (fun _ _ _ h => h) (Or.inl ⟨by kernel_rfl, ?_⟩) (by assumption) ?_; rotate_left; (focus (intro w _; go_simp; (try with_reducible rfl); done)); (try simp only [Act.put, List.getElem_toArray, List.getElem_cons_succ, List.getElem_cons_zero, List.setIfInBounds_toArray, List.set_cons_zero, List.set_cons_succ])
      refine takeF (i := 1) (v := ?_) rfl (by kernel_rfl) (fun _ _ _ h => h) (Or.inl ⟨by kernel_rfl, ?_⟩) (by assumption) ?_; rotate_left; (focus (intro w _; go_simp; (try with_reducible rfl); done)); (try simp only [Act.put, List.getElem_toArray, List.getElem_cons_succ, List.getElem_cons_zero, List.setIfInBounds_toArray, List.set_cons_zero, List.set_cons_succ])
      refine takeF (i := 2) (v := ?_) rfl (by kernel_rfl) (fun _ _ _ h => h) (Or.inl ⟨by kernel_rfl, ?_⟩) (by assumption) ?_; rotate_left; (focus (intro w _; go_simp; (try with_reducible rfl); done)); (try simp only [Act.put, List.getElem_toArray, List.getElem_cons_succ, List.getElem_cons_zero, List.setIfInBounds_toArray, List.set_cons_zero, List.set_cons_succ])
      refine takeH (i := 3) (v := ?_) rfl (by kernel_rfl) (fun _ _ _ h => h) (Or.inl ⟨by kernel_rfl, ?_⟩) (by assumption) ?_; rotate_left; (focus (intro w hSw; (try dsimp only at hSw); go_simp; (try with_reducible rfl); done)); (try simp only [Act.put, List.getElem_toArray, List.getElem_cons_succ, List.getElem_cons_zero, List.setIfInBounds_toArray, List.set_cons_zero, List.set_cons_succ])
      refine takeF (i := 4) (v := ?_) rfl (by kernel_rfl) (fun _ _ _ h => h) (Or.inl ⟨by kernel_rfl, ?_⟩) (by assumption) ?_; rotate_left; (focus (intro w _; go_simp; (try with_reducible rfl); done)); (try simp only [Act.put, List.getElem_toArray, List.getElem_cons_succ, List.getElem_cons_zero, List.setIfInBounds_toArray, List.set_cons_zero, List.set_cons_succ])
      refine takeF (i := 5) (v := ?_) rfl (by kernel_rfl) (fun _ _ _ h => h) (Or.inl ⟨by kernel_rfl, ?_⟩) (by assumption) ?_; rotate_left; (focus (intro w _; go_simp; (try with_reducible rfl); done)); (try simp only [Act.put, List.getElem_toArray, List.getElem_cons_succ, List.getElem_cons_zero, List.setIfInBounds_toArray, List.set_cons_zero, List.set_cons_succ])
      refine takeF (i := 6) (v := ?_) rfl (by kernel_rfl) (fun _ _ _ h => h) (Or.inl ⟨by kernel_rfl, ?_⟩) (by assumption) ?_; rotate_left; (focus (intro w _; go_simp; (try with_reducible rfl); done)); (try simp only [Act.put, List.getElem_toArray, List.getElem_cons_succ, List.getElem_cons_zero, List.setIfInBounds_toArray, List.set_cons_zero, List.set_cons_succ])
      refine takeH (i := 7) (v := ?_) rfl (by kernel_rfl) (fun _ _ _ h => h) (Or.inl ⟨by kernel_rfl, ?_⟩) (by assumption) ?_; rotate_left; (focus (intro w hSw; (try dsimp only at hSw); go_simp; (try with_reducible rfl); done)); (try simp only [Act.put, List.getElem_toArray, List.getElem_cons_succ, List.getElem_cons_zero, List.setIfInBounds_toArray, List.set_cons_zero, List.set_cons_succ])
      refine takeF (i := 8) (v := ?_) rfl (by kernel_rfl) (fun _ _ _ h => h) (Or.inl ⟨by kernel_rfl, ?_⟩) (by assumption) ?_; rotate_left; (focus (intro w _; go_simp; (try with_reducible rfl); done)); (try simp only [Act.put, List.getElem_toArray, List.getElem_cons_succ, List.getElem_cons_zero, List.setIfInBounds_toArray, List.set_cons_zero, List.set_cons_succ])
      clear hHeld0
      refine doneS (by kernel_rfl) ?_ _
      have HDc := Lib.hid (below_up HBk.out HDb.out)
      cases q2 with
      | true =>
        have h2 := HS2.out
        simp only [if_true] at h2
        have HS2' := Lib.hid h2
        clear h2
        go_wp2
        exact ⟨⟨k + 1, by go_num, by omega, by rw [HS1.out], by rw [HS2'.out] <;> simp, HDc.out⟩, by simp [intOf]; omega⟩
      | false =>
        have h2 := HS2.out
        simp only [Bool.false_eq_true, if_false, Nat.add_zero] at h2
        have HS2' := Lib.hid h2
        clear h2
        go_wp2
        exact ⟨⟨k + 1, by go_num, by omega, by rw [HS1.out], by rw [HS2'.out], HDc.out⟩, by simp [intOf]; omega⟩
    · obtain rfl : k = s.length := by omega
      have d1 : decide (s.length < s.length) = false := decide_eq_false (by omega)
      have d1i : decide ((s.length : Int) < s.length) = false := decide_eq_false (by omega)
      have hcnt : cntI y (L.take s.length) = cntI y (s.take s.length) := by
        rw [List.take_length, List.take_of_length_le (by rw [HSl.out]; exact Nat.le_refl _)]
        exact (HPm.out.countP_eq _).symm
      rw [hcnt] at hvm
      generalize cntI y (s.take s.length) = N1 at *
      subst hvn hvm
      clear hcnt
      have dne : ((N1 : Int) != N1) = false := by simp
      have hbase := below_up HBi.out HBk.out
      have HBs := Lib.hid hbase
      go_upto_region 19 with (fail)
      have HDa := Lib.hid (below_up HBs.out (below_drew1 (w := wr)))
      by_cases hi0 : 0 < i
      · have d2 : decide ((i : Int) > 0) = true := decide_eq_true (by omega)
        have d2n : decide (0 < i) = true := decide_eq_true hi0
        obtain ⟨m, rfl⟩ : ∃ m, i = m + 1 := ⟨i - 1, by omega⟩
        obtain ⟨I, hI⟩ : ∃ I, m + 1 = I := ⟨_, rfl⟩
        have hlm : m < s.length := by omega
        have hnl : ¬ ItS.Lt y s[m] := by rw [← HY.out]; exact HRs.out m hlt
        have HAt : Hid (∀ W', Below W3.heap.size W3 W' → ∃ g o, As = some ⟨g, o, none⟩ ∧ AtI W' g o I y ∧ AtI W' g o m s[m]) := Lib.hid (fun W' hb => by
          have hrow := HO.out.below (below_up HD3.out hb)
          obtain ⟨g, o, e1, f1⟩ := ir_at hrow hlt
          obtain ⟨g', o', e1', f1'⟩ := ir_at hrow hlm
          rw [e1] at e1'
          cases e1'
          rw [HY.out, hI] at f1
          exact ⟨g, o, e1, f1, f1'⟩)
        generalize s[m] = x at *
        obtain ⟨g, o, rfl, f1, f2⟩ := HAt.out _ HDa.out
        have HAt2 : Hid (∀ W', Below W3.heap.size W3 W' → AtI W' g o I y ∧ AtI W' g o m x) := Lib.hid (fun W' hb => by
          obtain ⟨g', o', e1, h⟩ := HAt.out W' hb
          cases e1
          exact h)
        have kI : IntKind.i64.wrap ((I : Int) - 1) = (m : Int) := by rw [IntWalk.i64_in _ (by omega)]; omega
        have kI2 : (I : Int) - 1 = (m : Int) := by omega
        have km0 : IntKind.i64.wrap (m : Int) = (m : Int) := by rw [IntWalk.i64_in _ (by omega)]
        have kI0 : IntKind.i64.wrap (I : Int) = (I : Int) := by rw [IntWalk.i64_in _ (by omega)]
        have bI : (I : Int) < s.length := by omega
        have bm : (m : Int) < s.length := by omega
        have HLs := fun W => less_ok y x W
        rw [decide_eq_false hnl] at HLs
        have HLs' := Lib.hid HLs
        have hIle1 : m + 1 ≤ I := by omega
        have hIle2 : I ≤ m + 1 := by omega
        have hIl : I < s.length := by omega
        simp only [hI] at d2 ⊢
        have hI0 : 0 < I := by omega
        have hI0i : (0 : Int) < I := by omega
        have dI : decide ((I : Int) > 0) = true := decide_eq_true (by omega)
        have dI1 : decide ((0 : Int) < I) = true := decide_eq_true (by omega)
        have dI2 : decide (0 < I) = true := decide_eq_true (by omega)
        clear HAt HY hnl HLs hlt hi hI bi d d2n
        refine beginS (S := fun W => AtI W g o I y ∧ AtI W g o m x) [] (by kernel_rfl) ⟨f1, f2⟩ (fun hHeld0 => ?_)
        generalize (World.drew wr) = Wa at *
        clear f1 f2
        refine takeF (i := 0) (v := ?_) rfl (by kernel_rfl) (fun _ _ _ h => h) (Or.inl ⟨by kernel_rfl, ?_⟩) (by assumption) ?_; rotate_left; (focus (intro w _; go_simp; (try with_reducible rfl); done)); (try simp only [Act.put, List.getElem_toArray, List.getElem_cons_succ, List.getElem_cons_zero, List.setIfInBounds_toArray, List.set_cons_zero, List.set_cons_succ])
        refine takeF (i := 1) (v := ?_) rfl (by kernel_rfl) (fun _ _ _ h => h) (Or.inl ⟨by kernel_rfl, ?_⟩) (by assumption) ?_; rotate_left; (focus (intro w _; go_simp; (try with_reducible rfl); done)); (try simp only [Act.put, List.getElem_toArray, List.getElem_cons_succ, List.getElem_cons_zero, List.setIfInBounds_toArray, List.set_cons_zero, List.set_cons_succ])
        refine takeF (i := 2) (v := ?_) rfl (by kernel_rfl) (fun _ _ _ h => h) (Or.inl ⟨by kernel_rfl, ?_⟩) (by assumption) ?_; rotate_left; (focus (intro w _; go_simp; (try with_reducible rfl); done)); (try simp only [Act.put, List.getElem_toArray, List.getElem_cons_succ, List.getElem_cons_zero, List.setIfInBounds_toArray, List.set_cons_zero, List.set_cons_succ])
        refine takeF (i := 3) (v := ?_) rfl (by kernel_rfl) (fun _ _ _ h => h) (Or.inl ⟨by kernel_rfl, ?_⟩) (by assumption) ?_; rotate_left; (focus (intro w _; go_simp; (try with_reducible rfl); done)); (try simp only [Act.put, List.getElem_toArray, List.getElem_cons_succ, List.getElem_cons_zero, List.setIfInBounds_toArray, List.set_cons_zero, List.set_cons_succ])
        refine takeF (i := 4) (v := ?_) rfl (by kernel_rfl) (fun _ _ _ h => h) (Or.inl ⟨by kernel_rfl, ?_⟩) (by assumption) ?_; rotate_left; (focus (intro w _; go_simp; (try with_reducible rfl); done)); (try simp only [Act.put, List.getElem_toArray, List.getElem_cons_succ, List.getElem_cons_zero, List.setIfInBounds_toArray, List.set_cons_zero, List.set_cons_succ])
        refine takeF (i := 5) (v := ?_) rfl (by kernel_rfl) (fun _ _ _ h => h) (Or.inl ⟨by kernel_rfl, ?_⟩) (by assumption) ?_; rotate_left; (focus (intro w _; go_simp; (try with_reducible rfl); done)); (try simp only [Act.put, List.getElem_toArray, List.getElem_cons_succ, List.getElem_cons_zero, List.setIfInBounds_toArray, List.set_cons_zero, List.set_cons_succ])
        refine takeF (i := 6) (v := ?_) rfl (by kernel_rfl) (fun _ _ _ h => h) (Or.inl ⟨by kernel_rfl, ?_⟩) (by assumption) ?_; rotate_left; (focus (intro w _; go_simp; (try with_reducible rfl); done)); (try simp only [Act.put, List.getElem_toArray, List.getElem_cons_succ, List.getElem_cons_zero, List.setIfInBounds_toArray, List.set_cons_zero, List.set_cons_succ])
        refine takeF (i := 7) (v := ?_) rfl (by kernel_rfl) (fun _ _ _ h => h) (Or.inl ⟨by kernel_rfl, ?_⟩) (by assumption) ?_; rotate_left; (focus (intro w _; go_simp; (try with_reducible rfl); done)); (try simp only [Act.put, List.getElem_toArray, List.getElem_cons_succ, List.getElem_cons_zero, List.setIfInBounds_toArray, List.set_cons_zero, List.set_cons_succ])
        refine takeF (i := 8) (v := ?_) rfl (by kernel_rfl) (fun _ _ _ h => h) (Or.inl ⟨by kernel_rfl, ?_⟩) (by assumption) ?_; rotate_left; (focus (intro w _; go_simp; (try with_reducible rfl); done)); (try simp only [Act.put, List.getElem_toArray, List.getElem_cons_succ, List.getElem_cons_zero, List.setIfInBounds_toArray, List.set_cons_zero, List.set_cons_succ])
        refine takeF (i := 9) (v := ?_) rfl (by kernel_rfl) (fun _ _ _ h => h) (Or.inl ⟨by kernel_rfl, ?_⟩) (by assumption) ?_; rotate_left; (focus (intro w _; go_simp; (try with_reducible rfl); done)); (try simp only [Act.put, List.getElem_toArray, List.getElem_cons_succ, List.getElem_cons_zero, List.setIfInBounds_toArray, List.set_cons_zero, List.set_cons_succ])
        refine takeH (i := 10) (v := ?_) rfl (by kernel_rfl) (fun _ _ _ h => h) (Or.inl ⟨by kernel_rfl, ?_⟩) (by assumption) ?_; rotate_left; (focus (intro w hSw; (try dsimp only at hSw); go_simp; (try with_reducible rfl); done)); (try simp only [Act.put, List.getElem_toArray, List.getElem_cons_succ, List.getElem_cons_zero, List.setIfInBounds_toArray, List.set_cons_zero, List.set_cons_succ])
        refine takeF (i := 11) (v := ?_) rfl (by kernel_rfl) (fun _ _ _ h => h) (Or.inl ⟨by kernel_rfl, ?_⟩) (by assumption) ?_; rotate_left; (focus (intro w _; go_simp; (try with_reducible rfl); done)); (try simp only [Act.put, List.getElem_toArray, List.getElem_cons_succ, List.getElem_cons_zero, List.setIfInBounds_toArray, List.set_cons_zero, List.set_cons_succ])
        refine takeF (i := 12) (v := ?_) rfl (by kernel_rfl) (fun _ _ _ h => h) (Or.inl ⟨by kernel_rfl, ?_⟩) (by assumption) ?_; rotate_left; (focus (intro w _; go_simp; (try with_reducible rfl); done)); (try simp only [Act.put, List.getElem_toArray, List.getElem_cons_succ, List.getElem_cons_zero, List.setIfInBounds_toArray, List.set_cons_zero, List.set_cons_succ])
        refine takeF (i := 13) (v := ?_) rfl (by kernel_rfl) (fun _ _ _ h => h) (Or.inl ⟨by kernel_rfl, ?_⟩) (by assumption) ?_; rotate_left; (focus (intro w _; go_simp; (try with_reducible rfl); done)); (try simp only [Act.put, List.getElem_toArray, List.getElem_cons_succ, List.getElem_cons_zero, List.setIfInBounds_toArray, List.set_cons_zero, List.set_cons_succ])
        refine takeF (i := 14) (v := ?_) rfl (by kernel_rfl) (fun _ _ _ h => h) (Or.inl ⟨by kernel_rfl, ?_⟩) (by assumption) ?_; rotate_left; (focus (intro w _; go_simp; (try with_reducible rfl); done)); (try simp only [Act.put, List.getElem_toArray, List.getElem_cons_succ, List.getElem_cons_zero, List.setIfInBounds_toArray, List.set_cons_zero, List.set_cons_succ])
        refine takeH (i := 15) (v := ?_) rfl (by kernel_rfl) (fun _ _ _ h => h) (Or.inl ⟨by kernel_rfl, ?_⟩) (by assumption) ?_; rotate_left; (focus (intro w hSw; (try dsimp only at hSw); go_simp; (try with_reducible rfl); done)); (try simp only [Act.put, List.getElem_toArray, List.getElem_cons_succ, List.getElem_cons_zero, List.setIfInBounds_toArray, List.set_cons_zero, List.set_cons_succ])
        clear hHeld0
        refine readyS (rs := [16]) (by kernel_rfl) (by simp) ?_
        refine ReadyS.consH rfl (fun K hK => ?_) ReadyS.nil
        (try simp only [List.getElem_toArray, List.getElem_cons_succ, List.getElem_cons_zero])
        go_simp
        (with_reducible refine (HLs'.out Wa).mono ?_); rintro e Wb ⟨rfl, hb⟩
        have HDb := Lib.hid (below_up HDa.out hb)
        clear hb
        refine hK.out _ _ (HAt2.out _ HDb.out) (fun hHeld => ?_)
        clear hK K
        (try simp only [Act.put, List.getElem_toArray, List.getElem_cons_succ, List.getElem_cons_zero, List.setIfInBounds_toArray, List.set_cons_zero, List.set_cons_succ])
        refine takeF (i := 17) (v := ?_) rfl (by kernel_rfl) (fun _ _ _ h => h) (Or.inl ⟨by kernel_rfl, ?_⟩) (by assumption) ?_; rotate_left; (focus (intro w _; go_simp; (try with_reducible rfl); done)); (try simp only [Act.put, List.getElem_toArray, List.getElem_cons_succ, List.getElem_cons_zero, List.setIfInBounds_toArray, List.set_cons_zero, List.set_cons_succ])
        refine takeF (i := 18) (v := ?_) rfl (by kernel_rfl) (fun _ _ _ h => h) (Or.inl ⟨by kernel_rfl, ?_⟩) (by assumption) ?_; rotate_left; (focus (intro w _; go_simp; (try with_reducible rfl); done)); (try simp only [Act.put, List.getElem_toArray, List.getElem_cons_succ, List.getElem_cons_zero, List.setIfInBounds_toArray, List.set_cons_zero, List.set_cons_succ])
        clear hHeld
        refine doneS (by kernel_rfl) ?_ _
        go_wp2
        exact ⟨⟨I + 1, by go_num, by omega, HDb.out⟩, by simp [intOf]; omega⟩
      · obtain rfl : i = 0 := by omega
        refine beginS (S := fun W => True) [] (by kernel_rfl) trivial (fun hHeld0 => ?_)
        generalize (World.drew wr) = Wa at *
        refine takeF (i := 0) (v := ?_) rfl (by kernel_rfl) (fun _ _ _ h => h) (Or.inl ⟨by kernel_rfl, ?_⟩) (by assumption) ?_; rotate_left; (focus (intro w _; go_simp; (try with_reducible rfl); done)); (try simp only [Act.put, List.getElem_toArray, List.getElem_cons_succ, List.getElem_cons_zero, List.setIfInBounds_toArray, List.set_cons_zero, List.set_cons_succ])
        refine takeF (i := 1) (v := ?_) rfl (by kernel_rfl) (fun _ _ _ h => h) (Or.inl ⟨by kernel_rfl, ?_⟩) (by assumption) ?_; rotate_left; (focus (intro w _; go_simp; (try with_reducible rfl); done)); (try simp only [Act.put, List.getElem_toArray, List.getElem_cons_succ, List.getElem_cons_zero, List.setIfInBounds_toArray, List.set_cons_zero, List.set_cons_succ])
        refine takeF (i := 2) (v := ?_) rfl (by kernel_rfl) (fun _ _ _ h => h) (Or.inl ⟨by kernel_rfl, ?_⟩) (by assumption) ?_; rotate_left; (focus (intro w _; go_simp; (try with_reducible rfl); done)); (try simp only [Act.put, List.getElem_toArray, List.getElem_cons_succ, List.getElem_cons_zero, List.setIfInBounds_toArray, List.set_cons_zero, List.set_cons_succ])
        refine takeF (i := 3) (v := ?_) rfl (by kernel_rfl) (fun _ _ _ h => h) (Or.inl ⟨by kernel_rfl, ?_⟩) (by assumption) ?_; rotate_left; (focus (intro w _; go_simp; (try with_reducible rfl); done)); (try simp only [Act.put, List.getElem_toArray, List.getElem_cons_succ, List.getElem_cons_zero, List.setIfInBounds_toArray, List.set_cons_zero, List.set_cons_succ])
        refine takeF (i := 4) (v := ?_) rfl (by kernel_rfl) (fun _ _ _ h => h) (Or.inl ⟨by kernel_rfl, ?_⟩) (by assumption) ?_; rotate_left; (focus (intro w _; go_simp; (try with_reducible rfl); done)); (try simp only [Act.put, List.getElem_toArray, List.getElem_cons_succ, List.getElem_cons_zero, List.setIfInBounds_toArray, List.set_cons_zero, List.set_cons_succ])
        refine takeF (i := 5) (v := ?_) rfl (by kernel_rfl) (fun _ _ _ h => h) (Or.inl ⟨by kernel_rfl, ?_⟩) (by assumption) ?_; rotate_left; (focus (intro w _; go_simp; (try with_reducible rfl); done)); (try simp only [Act.put, List.getElem_toArray, List.getElem_cons_succ, List.getElem_cons_zero, List.setIfInBounds_toArray, List.set_cons_zero, List.set_cons_succ])
        refine takeF (i := 6) (v := ?_) rfl (by kernel_rfl) (fun _ _ _ h => h) (Or.inl ⟨by kernel_rfl, ?_⟩) (by assumption) ?_; rotate_left; (focus (intro w _; go_simp; (try with_reducible rfl); done)); (try simp only [Act.put, List.getElem_toArray, List.getElem_cons_succ, List.getElem_cons_zero, List.setIfInBounds_toArray, List.set_cons_zero, List.set_cons_succ])
        refine takeF (i := 7) (v := undef) rfl (by kernel_rfl) (fun _ _ _ h => h) (Or.inr ⟨by kernel_rfl, rfl⟩) (by assumption) ?_; (try simp only [Act.put, List.getElem_toArray, List.getElem_cons_succ, List.getElem_cons_zero, List.setIfInBounds_toArray, List.set_cons_zero, List.set_cons_succ])
        refine takeF (i := 8) (v := undef) rfl (by kernel_rfl) (fun _ _ _ h => h) (Or.inr ⟨by kernel_rfl, rfl⟩) (by assumption) ?_; (try simp only [Act.put, List.getElem_toArray, List.getElem_cons_succ, List.getElem_cons_zero, List.setIfInBounds_toArray, List.set_cons_zero, List.set_cons_succ])
        refine takeF (i := 9) (v := undef) rfl (by kernel_rfl) (fun _ _ _ h => h) (Or.inr ⟨by kernel_rfl, rfl⟩) (by assumption) ?_; (try simp only [Act.put, List.getElem_toArray, List.getElem_cons_succ, List.getElem_cons_zero, List.setIfInBounds_toArray, List.set_cons_zero, List.set_cons_succ])
        refine takeF (i := 10) (v := undef) rfl (by kernel_rfl) (fun _ _ _ h => h) (Or.inr ⟨by kernel_rfl, rfl⟩) (by assumption) ?_; (try simp only [Act.put, List.getElem_toArray, List.getElem_cons_succ, List.getElem_cons_zero, List.setIfInBounds_toArray, List.set_cons_zero, List.set_cons_succ])
        refine takeF (i := 11) (v := undef) rfl (by kernel_rfl) (fun _ _ _ h => h) (Or.inr ⟨by kernel_rfl, rfl⟩) (by assumption) ?_; (try simp only [Act.put, List.getElem_toArray, List.getElem_cons_succ, List.getElem_cons_zero, List.setIfInBounds_toArray, List.set_cons_zero, List.set_cons_succ])
        refine takeF (i := 12) (v := undef) rfl (by kernel_rfl) (fun _ _ _ h => h) (Or.inr ⟨by kernel_rfl, rfl⟩) (by assumption) ?_; (try simp only [Act.put, List.getElem_toArray, List.getElem_cons_succ, List.getElem_cons_zero, List.setIfInBounds_toArray, List.set_cons_zero, List.set_cons_succ])
        refine takeF (i := 13) (v := undef) rfl (by kernel_rfl) (fun _ _ _ h => h) (Or.inr ⟨by kernel_rfl, rfl⟩) (by assumption) ?_; (try simp only [Act.put, List.getElem_toArray, List.getElem_cons_succ, List.getElem_cons_zero, List.setIfInBounds_toArray, List.set_cons_zero, List.set_cons_succ])
        refine takeF (i := 14) (v := undef) rfl (by kernel_rfl) (fun _ _ _ h => h) (Or.inr ⟨by kernel_rfl, rfl⟩) (by assumption) ?_; (try simp only [Act.put, List.getElem_toArray, List.getElem_cons_succ, List.getElem_cons_zero, List.setIfInBounds_toArray, List.set_cons_zero, List.set_cons_succ])
        refine takeF (i := 15) (v := undef) rfl (by kernel_rfl) (fun _ _ _ h => h) (Or.inr ⟨by kernel_rfl, rfl⟩) (by assumption) ?_; (try simp only [Act.put, List.getElem_toArray, List.getElem_cons_succ, List.getElem_cons_zero, List.setIfInBounds_toArray, List.set_cons_zero, List.set_cons_succ])
        refine takeF (i := 16) (v := undef) rfl (by kernel_rfl) (fun _ _ _ h => h) (Or.inr ⟨by kernel_rfl, rfl⟩) (by assumption) ?_; (try simp only [Act.put, List.getElem_toArray, List.getElem_cons_succ, List.getElem_cons_zero, List.setIfInBounds_toArray, List.set_cons_zero, List.set_cons_succ])
        refine takeF (i := 17) (v := ?_) rfl (by kernel_rfl) (fun _ _ _ h => h) (Or.inl ⟨by kernel_rfl, ?_⟩) (by assumption) ?_; rotate_left; (focus (intro w _; go_simp; (try with_reducible rfl); done)); (try simp only [Act.put, List.getElem_toArray, List.getElem_cons_succ, List.getElem_cons_zero, List.setIfInBounds_toArray, List.set_cons_zero, List.set_cons_succ])
        refine takeF (i := 18) (v := ?_) rfl (by kernel_rfl) (fun _ _ _ h => h) (Or.inl ⟨by kernel_rfl, ?_⟩) (by assumption) ?_; rotate_left; (focus (intro w _; go_simp; (try with_reducible rfl); done)); (try simp only [Act.put, List.getElem_toArray, List.getElem_cons_succ, List.getElem_cons_zero, List.setIfInBounds_toArray, List.set_cons_zero, List.set_cons_succ])
        clear hHeld0
        refine doneS (by kernel_rfl) ?_ _
        go_wp2
        exact ⟨⟨1, by go_num, by omega, HDa.out⟩, by simp [intOf]; omega⟩
  · obtain rfl : i = s.length := by omega
    have d : decide (s.length < s.length) = false := decide_eq_false (by omega)
    have di : decide ((s.length : Int) < s.length) = false := decide_eq_false (by omega)
    obtain ⟨c0, c1, c2, c3⟩ := (HQ.out _ (below_up HD3.out HBi.out)).1
    have HN1 := fun W => pushnil_ok ⟨a1, a2, a3, a4⟩ W
    have HN2 := fun W => popnil_ok W
    have HN3 := fun W => lennil_ok W
    go_wp2_with fail
    (with_reducible refine (HN1 _).mono ?_); rintro e w6 ⟨rfl, hb⟩
    have HB6 := Lib.hid (below_up (below_up HB3.out HBi.out) hb)
    clear hb c0 c1 c2 c3
    go_wp2_with fail
    (with_reducible refine (HN2 _).mono ?_); rintro e w7 ⟨rfl, hb⟩
    have HB7 := Lib.hid (below_up HB6.out hb)
    clear hb
    have HB8 := Lib.hid (below_alloc HB7.out (.cells #[.int .u64 0, .int .u64 0, .int .i64 0, .int .i64 0] 33))
    go_wp2_with fail
    (with_reducible refine (HN3 _).mono ?_); rintro e w9 ⟨rfl, hw⟩
    subst hw
    go_wp2
    go_ret
    exact ⟨rfl, HB8.out⟩
end Go.Proofs.Ytkjapmafipnmpaa.StI
