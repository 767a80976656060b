/- The walk over disk.New. -/
import Derived.Test.YthpnlgdcijmocaaDk8
namespace Go.Proofs.Ythpnlgdcijmocaa.Dk
open Go.RowKit Rg Mp
set_option linter.unusedVariables false
set_option linter.unusedSimpArgs false
theorem info_sl : (Try.prog.info? 78).map (fun i => (i.zero, i.size, i.bytes)) = some (some (.slice none 0 0), 1, 24) := by kernel_rfl
theorem bv_zero : bv zero256 = List.replicate 256 (.int .u8 0) := by
  unfold bv zero256
  rw [List.map_replicate]
  rfl
theorem make256 (W : World) : (Instr.makeSlice 78 (.int .i64 256) (.int .i64 256)).run Try.prog W = .ok (.slice (some ⟨W.heap.size, 0, none⟩) 256 256) (W.alloc (.cells (madeCells #[.int .u8 0] 256) 5)) := by kernel_rfl
/-- A sector of zeros, made. -/
theorem made256 : ∃ Z : Array Value, Z.toList = bv zero256 ∧ Z.size = 256 ∧ ∀ W : World, (Instr.makeSlice 78 (.int .i64 256) (.int .i64 256)).run Try.prog W = .ok (.slice (some ⟨W.heap.size, 0, none⟩) 256 256) (W.alloc (.cells Z 5)) :=
  ⟨_, by rw [bv_zero]; exact toList_madeCells_one _ _, by rw [← Array.length_toList, toList_madeCells_one]; exact List.length_replicate, make256⟩
theorem zero_len : zero256.length = 256 := List.length_replicate
theorem new_snoc (k : Nat) : (new (k + 1)).sure = (new k).sure ++ [zero256] ∧ (∀ a, oddF (new k) a = oddF (new (k + 1)) a) := by
  refine ⟨by simp [new, List.replicate_succ'], fun a => ?_⟩
  have key : ∀ m i, (List.replicate m false).getD i false = false := fun m i => by
    rw [List.getD_eq_getElem?_getD]
    by_cases h : i < m
    · rw [List.getElem?_eq_getElem (by simpa using h)]; simp
    · rw [List.getElem?_eq_none (by simp; omega)]; rfl
  unfold oddF new
  simp only [key]
section
variable {L : Int → Prop} {W W' : World} {base N g r : Nat} {vs vw vf : Value} {d d' : DkS} {sure : List Oc} {waits : List Wt} {F : Int → Option Value} {fates : List Int}
/-- One sector more: the row has grown. -/
theorem DQ.moreS (h : DQ W base N vs vw r vf sure waits F fates) {sv : List Value} {n : Nat} (hl : sv.length = sure.length) (hel : ∀ i (h : i < sv.length) (h' : i < sure.length), SOwn W base sv[i] sure[i]) {v : Value} {b : Oc} (hv : SOwn W base v b)
    (hrow : W.ownsRow base 78 1 vs n sv) {vs' : Value} (hown : W'.ownsRow base 78 1 vs' (n + 1) (sv ++ [v])) (hg : W.grownBy W' vs.ownBlock) : DQ W' base N vs' vw r vf (sure ++ [b]) waits F fates := by
  have hf : Fr (fun k => vs.ownBlock = some k) W W' := (Fr.refl _ W).grown hg (fun k e _ => e)
  have hty : ∀ k, vs.ownBlock = some k → ∃ cs, W.heap[k]? = some (.cells cs 78 (0, 0)) := fun k e => own_typed hrow k e
  have hn : n = sv.length := by have := hrow.1; omega
  subst hn
  have ht : ∀ {t : TypeId}, 78 ≠ t → ∀ k, vs.ownBlock = some k → ∀ cs, W.heap[k]? ≠ some (.cells cs t (0, 0)) := fun hne k e cs => by
    obtain ⟨c, hc⟩ := hty k e
    exact cells_ne hc hne
  refine ⟨⟨sv ++ [v], ?_, by simp [hl], fun i a a' => ?_⟩, h.w.fr hf (ht (by decide)) (ht (by decide)), h.m.fr hf (fun e => ?_), h.rb, h.f.fr hf (ht (by decide))⟩
  · rw [List.length_append]
    simpa using hown
  · by_cases hi : i < sv.length
    · rw [List.getElem_append_left hi, List.getElem_append_left (by omega)]
      exact own_ty (hel i hi (by omega)) hf (ht (by decide))
    · have hi2 : i = sv.length := by simp at a; omega
      subst hi2
      have e1 : (sv ++ [v])[sv.length]'a = v := by simp
      have e2 : (sure ++ [b])[sv.length]'a' = b := by simp [hl]
      rw [e1, e2]
      exact own_ty hv hf (ht (by decide))
  · obtain ⟨c, hc⟩ := hty _ e
    obtain ⟨es, c', hb⟩ := h.m.blk
    rw [hc] at hb
    cases hb
end
set_option maxHeartbeats 4000000 in
set_option maxRecDepth 100000 in
theorem dnew_ok (n : Int) (hn : i64 n) (w : World) : Calls Try.prog 36 #[.int .i64 n] w fun e w' => ∃ m : Nat, (m : Int) = min (max n 0) 4096 ∧ ∃ g vs r, e = .returned (.pointer (some ⟨g, 0, none⟩)) ∧ DAt (L0 (new m)) w' w.heap.size 0 g vs (.slice none 0 0) r (new m) ∧ Below w.heap.size w w' := by
  obtain ⟨m, hm⟩ : ∃ m : Nat, (m : Int) = min (max n 0) 4096 := ⟨(min (max n 0) 4096).toNat, by omega⟩
  have hm4 : m ≤ 4096 := by omega
  have hmm := @run_makeMap Try.prog
  obtain ⟨Z, hZ, hZs, hmk⟩ := made256
  have HZ := Lib.hid (And.intro hZ hZs)
  clear hZ hZs
  have hv : (if (if n < 0 then (0 : Int) else n) < 4096 then (if n < 0 then (0 : Int) else n) else 4096) = (m : Int) := by split <;> (try split) <;> omega
  have hv2 : (if 4096 < (if n < 0 then (0 : Int) else n) then 4096 else (if n < 0 then (0 : Int) else n)) = (m : Int) := by rw [hm]; split <;> (try split) <;> omega
  have HM := Lib.hid hm
  clear hm
  go_enter Try.func36, Try.ntmps36
  go_upto_region 2 with (fail)
  have hba := below_alloc1 w (.map #[] 0)
  have hm0 := made Try.prog 3 w
  have hs1 : (w.alloc (.map #[] 0)).heap.size = w.heap.size + 1 := by unfold World.alloc; simp
  have hbb := below_alloc1 (w.alloc (.map #[] 0)) (.cells #[.bool true, .slice none 0 0, .slice none 0 0, .map (some w.heap.size), .bool false, .bool false, .int .i64 0, .slice none 0 0, .bool false, .int .i64 0] 115)
  have hat := alloc_at (w := w.alloc (.map #[] 0)) (.cells #[.bool true, .slice none 0 0, .slice none 0 0, .map (some w.heap.size), .bool false, .bool false, .int .i64 0, .slice none 0 0, .bool false, .int .i64 0] 115) hs1.symm
  have hd0 : DAt (L0 (new 0)) ((w.alloc (.map #[] 0)).alloc (.cells #[.bool true, .slice none 0 0, .slice none 0 0, .map (some w.heap.size), .bool false, .bool false, .int .i64 0, .slice none 0 0, .bool false, .int .i64 0] 115)) w.heap.size 0 (w.heap.size + 1) (.slice none 0 0) (.slice none 0 0) w.heap.size (new 0) :=
    ⟨Nat.le_succ _, new_ok (by omega), .slice none 0 0, 0, 0, hat, ⟨⟨[], ⟨rfl, .inl ⟨rfl, rfl⟩⟩, rfl, fun i h => by simp at h⟩, ⟨[], ⟨rfl, .inl ⟨rfl, rfl⟩⟩, rfl, fun i h => by simp at h⟩, (hm0.up hbb).congr (fun a _ => by simp [oddF, new]), Nat.le_refl _, .inl ⟨rfl, none, 0, rfl⟩⟩, ⟨fun h => by simp [new] at h, by unfold i64; omega⟩, ⟨fun h => by simp [new] at h, by unfold i64; omega⟩⟩
  have H0 := Lib.hid (And.intro hd0 (below_up hba hbb))
  clear hba hm0 hs1 hbb hat hd0 hmm
  generalize ((w.alloc _).alloc _) = w0 at *
  go_cut [9, 10] from 7 to 10 (fun v9 v10 wx => v9 = .int .i64 (m : Nat) ∧ v10 = .int .i64 0 ∧ w0 = wx)
  case first =>
    go_wp2
    all_goals go_meet
    all_goals exact ⟨rfl, rfl, rfl⟩
  case rest =>
  obtain ⟨rfl, rfl, hw⟩ := hcut
  subst hw
  clear hv hv2
  go_wp2_with fail
  go_loopw [10] (fun vi Wx => ∃ k : Nat, k ≤ m ∧ vi = .int .i64 k ∧ (∃ vs, DAt (L0 (new k)) Wx w.heap.size 0 (w.heap.size + 1) vs (.slice none 0 0) w.heap.size (new k)) ∧ Below w.heap.size w Wx) (fun vi _ => m - (intOf vi).toNat)
  case atStart => exact ⟨0, by omega, rfl, ⟨_, H0.out.1⟩, H0.out.2⟩
  case round =>
  obtain ⟨k, hk, rfl, ⟨vs, hd⟩, hb⟩ := hrel
  have HD := Lib.hid hd
  have HB := Lib.hid hb
  by_cases hlt : k < m
  · have dd : decide ((k : Int) < m) = true := decide_eq_true (by omega)
    have dn : decide (k < m) = true := decide_eq_true hlt
    obtain ⟨_, c1, _⟩ := hd.cell
    obtain ⟨sv, hrow, hsl, hse⟩ := hd.s
    obtain ⟨As, cs, e, _, _, _, _⟩ := own_rd hrow
    subst e
    have hsn : sv.length ≤ 4096 := by rw [hsl]; exact hd.ok.many
    have HRow := Lib.hid (And.intro hrow (And.intro hsl hse))
    have hd1 := below_drew1 (w := wr)
    have HD1 := Lib.hid hd1
    have c2 := cell_up c1 hd1
    clear hd hb hrow hsl hse
    go_upto_region 4 with (fail)
    refine beginS (S := fun W' => W'.cell? ⟨w.heap.size + 1, 1, none⟩ = some (.slice As sv.length cs)) [10] (by kernel_rfl) c2 (fun hHeld0 => ?_)
    generalize (World.drew wr) = W0 at *
    clear c2 hd1
    refine takeF (i := 0) (v := ?_) rfl (by kernel_rfl) (fun _ _ _ h => h) (Or.inl ⟨by kernel_rfl, ?_⟩) (by assumption) ?_; rotate_left; (focus (intro w _; go_simp; (try with_reducible rfl); done)); (try simp only [Act.put, List.getElem_toArray, List.getElem_cons_succ, List.getElem_cons_zero, List.setIfInBounds_toArray, List.set_cons_zero, List.set_cons_succ])
    refine takeF (i := 1) (v := ?_) rfl (by kernel_rfl) (fun _ _ _ h => h) (Or.inl ⟨by kernel_rfl, ?_⟩) (by assumption) ?_; rotate_left; (focus (intro w _; go_simp; (try with_reducible rfl); done)); (try simp only [Act.put, List.getElem_toArray, List.getElem_cons_succ, List.getElem_cons_zero, List.setIfInBounds_toArray, List.set_cons_zero, List.set_cons_succ])
    refine takeF (i := 2) (v := ?_) rfl (by kernel_rfl) (fun _ _ _ h => h) (Or.inl ⟨by kernel_rfl, ?_⟩) (by assumption) ?_; rotate_left; (focus (intro w _; go_simp; (try with_reducible rfl); done)); (try simp only [Act.put, List.getElem_toArray, List.getElem_cons_succ, List.getElem_cons_zero, List.setIfInBounds_toArray, List.set_cons_zero, List.set_cons_succ])
    refine takeF (i := 3) (v := ?_) rfl (by kernel_rfl) (fun _ _ _ h => h) (Or.inl ⟨by kernel_rfl, ?_⟩) (by assumption) ?_; rotate_left; (focus (intro w _; go_simp; (try with_reducible rfl); done)); (try simp only [Act.put, List.getElem_toArray, List.getElem_cons_succ, List.getElem_cons_zero, List.setIfInBounds_toArray, List.set_cons_zero, List.set_cons_succ])
    refine takeH (i := 4) (v := ?_) rfl (by kernel_rfl) (fun _ _ _ h => h) (Or.inl ⟨by kernel_rfl, ?_⟩) (by assumption) ?_; rotate_left; (focus (intro w hSw; (try dsimp only at hSw); go_simp; (try with_reducible rfl); done)); (try simp only [Act.put, List.getElem_toArray, List.getElem_cons_succ, List.getElem_cons_zero, List.setIfInBounds_toArray, List.set_cons_zero, List.set_cons_succ])
    clear hHeld0
    refine readyS (rs := [5]) (by kernel_rfl) (by simp) ?_
    refine ReadyS.consH rfl (fun K hK => ?_) ReadyS.nil
    (try simp only [List.getElem_toArray, List.getElem_cons_succ, List.getElem_cons_zero])
    go_simp
    have hba := below_alloc1 W0 (.cells Z 5)
    have HD2 := Lib.hid (below_up HD1.out hba)
    have hs0 := own_new W0 W0.heap.size 5 1 256 Z (Nat.le_refl _) (by unfold maxLen; omega) (by rw [HZ.out.2])
    rw [HZ.out.1] at hs0
    have hs0 : SOwn (W0.alloc (.cells Z 5)) W0.heap.size (.slice (some ⟨W0.heap.size, 0, none⟩) 256 256) zero256 := by
      have h1 := hs0
      unfold SOwn
      rw [zero_len]
      exact h1
    have HS0 := Lib.hid hs0
    clear hba hs0
    refine hK.out _ _ (cell_up c1 HD2.out) (fun hHeld => ?_)
    clear hK K
    (try simp only [Act.put, List.getElem_toArray, List.getElem_cons_succ, List.getElem_cons_zero, List.setIfInBounds_toArray, List.set_cons_zero, List.set_cons_succ])
    clear hHeld
    generalize hW1 : (World.alloc W0 _) = W1 at *
    refine readyS (rs := [6]) (by kernel_rfl) (by simp) ?_
    refine ReadyS.consH rfl (fun K hK => ?_) ReadyS.nil
    (try simp only [List.getElem_toArray, List.getElem_cons_succ, List.getElem_cons_zero])
    go_simp
    have hba := below_alloc1 W1 (.cells #[.slice (some ⟨W0.heap.size, 0, none⟩) 256 256] 78)
    have HRd := Lib.hid (rd_new W1 #[.slice (some ⟨W0.heap.size, 0, none⟩) 256 256] 78 [.slice (some ⟨W0.heap.size, 0, none⟩) 256 256] rfl)
    have HD3 := Lib.hid (below_up HD2.out hba)
    have HS1 := Lib.hid (own_below HS0.out hba)
    clear hba
    refine hK.out _ _ (cell_up c1 HD3.out) (fun hHeld => ?_)
    clear hK K
    (try simp only [Act.put, List.getElem_toArray, List.getElem_cons_succ, List.getElem_cons_zero, List.setIfInBounds_toArray, List.set_cons_zero, List.set_cons_succ])
    clear hHeld
    generalize hW2 : (World.alloc W1 _) = W2 at *
    refine readyS (rs := [7]) (by kernel_rfl) (by simp) ?_
    refine ReadyS.consH rfl (fun K hK => ?_) ReadyS.nil
    (try simp only [List.getElem_toArray, List.getElem_cons_succ, List.getElem_cons_zero])
    rw [if_pos (by kernel_rfl)]
    subst hW2
    have hrow2 := own_below HRow.out.1 HD3.out
    have hbs : w.heap.size ≤ (W1.alloc (.cells #[.slice (some ⟨W0.heap.size, 0, none⟩) 256 256] 78)).heap.size := Nat.le_trans HB.out.size HD3.out.size
    refine wp_app _ _ 94 (by rfl) w.heap.size 78 (.slice none 0 0) 1 24 Try.underlying94 info_sl rfl (by decide) (by decide) (.slice As sv.length cs) sv.length sv (by rfl) (some ⟨W1.heap.size, 0, none⟩) 1 1 [.slice (some ⟨W0.heap.size, 0, none⟩) 256 256] (by rfl) hrow2 rfl HRd.out (by simp [Value.oneCell']) (by omega) hbs ?_
    intro A1 c1' w9 hown hgrow hat9
    obtain ⟨vf, lf, cl, hb1, hq1, h3, h4⟩ := HD.out.ex
    have hb4 := block_up hb1 HD3.out
    have hq4 := hq1.up HD3.out
    have hfr9 : Fr (fun k => (Value.slice As sv.length cs).ownBlock = some k) _ w9 := (Fr.refl _ _).grown hgrow (fun k e _ => e)
    have hng : ¬ (Value.slice As sv.length cs).ownBlock = some (w.heap.size + 1) := own_ne_block hrow2 hb4 (by decide)
    have hb9 := blk_fr hb4 hfr9 hng
    have hS4 : SOwn _ w.heap.size (.slice (some ⟨W0.heap.size, 0, none⟩) 256 256) zero256 := own_lower HS1.out (Nat.le_trans HB.out.size HD1.out.size)
    have hq9 := hq4.moreS HRow.out.2.1 (fun i x y => own_below (HRow.out.2.2 i x y) HD3.out) hS4 hrow2 hown hgrow
    have hbel := below_grown (below_up HB.out HD3.out) hgrow (fun k e => own_base hrow2 k e)
    have H9 := Lib.hid (And.intro hb9 (And.intro hq9 (And.intro hbel (And.intro h3 h4))))
    have z0 := cell_block hb9 1
    clear hown hgrow hat9 hb1 hq1 h3 h4 hb4 hq4 hfr9 hng hb9 hS4 hq9 hbel hrow2 hbs
    refine hK.out _ _ (z0) (fun hHeld => ?_)
    clear hK K
    (try simp only [Act.put, List.getElem_toArray, List.getElem_cons_succ, List.getElem_cons_zero, List.setIfInBounds_toArray, List.set_cons_zero, List.set_cons_succ])
    refine takeF (i := 8) (v := ?_) rfl (by kernel_rfl) (fun _ _ _ h => h) (Or.inl ⟨by kernel_rfl, ?_⟩) (by assumption) ?_; rotate_left; (focus (intro w _; go_simp; (try with_reducible rfl); done)); (try simp only [Act.put, List.getElem_toArray, List.getElem_cons_succ, List.getElem_cons_zero, List.setIfInBounds_toArray, List.set_cons_zero, List.set_cons_succ])
    refine takeF (i := 9) (v := ?_) rfl (by kernel_rfl) (fun _ _ _ h => h) (Or.inl ⟨by kernel_rfl, ?_⟩) (by assumption) ?_; rotate_left; (focus (intro w _; go_simp; (try with_reducible rfl); done)); (try simp only [Act.put, List.getElem_toArray, List.getElem_cons_succ, List.getElem_cons_zero, List.setIfInBounds_toArray, List.set_cons_zero, List.set_cons_succ])
    clear hHeld
    have fz := free_block H9.out.1 1
    refine readyS (rs := [10]) (by kernel_rfl) (by simp) ?_
    refine ReadyS.consP rfl (by kernel_rfl) (fun K hK => ?_) ReadyS.nil
    (try simp only [List.getElem_toArray, List.getElem_cons_succ, List.getElem_cons_zero])
    go_simp
    have hset := fr_set1 w9 (w.heap.size + 1) 1 (.slice A1 (sv.length + 1) c1')
    have hb10 := blk_set H9.out.1 1 (.slice A1 (sv.length + 1) c1')
    have hq10 := H9.out.2.1.fr_g H9.out.1 hset
    obtain ⟨hns, hno⟩ := new_snoc k
    rw [← hns] at hq10
    have hd10 : DAt (L0 (new (k + 1))) (w9.setCell ⟨w.heap.size + 1, 1, none⟩ (.slice A1 (sv.length + 1) c1')) w.heap.size 0 (w.heap.size + 1) (.slice A1 (sv.length + 1) c1') (.slice none 0 0) w.heap.size (new (k + 1)) :=
      ⟨Nat.le_succ _, new_ok (by omega), vf, lf, cl, by
        show DB _ _ _ _ _ (new k).off (decide (0 < (new k).cut)) _ _ (decide (0 ≤ (new k).fail)) _
        simpa using hb10, hq10.congr hno, H9.out.2.2.2.1, H9.out.2.2.2.2⟩
    have HR := Lib.hid (And.intro hd10 (H9.out.2.2.1.setCell (p := ⟨w.heap.size + 1, 1, none⟩) (Nat.le_succ _) (.slice A1 (sv.length + 1) c1')))
    clear hset hb10 hq10 hns hno hd10 z0 fz
    generalize (World.setCell w9 _ _) = w10 at *
    refine hK.out _ _ ?_
    clear hK K
    (try simp only [Act.put, List.getElem_toArray, List.getElem_cons_succ, List.getElem_cons_zero, List.setIfInBounds_toArray, List.set_cons_zero, List.set_cons_succ])
    refine doneS (by kernel_rfl) ?_ _
    go_wp2
    exact ⟨⟨k + 1, by omega, by go_num, ⟨_, HR.out.1⟩, HR.out.2⟩, by simp [intOf]; omega⟩
  · have hkl : k = m := by omega
    subst hkl
    have dd : decide ((k : Int) < k) = false := decide_eq_false (by omega)
    have dn : decide (k < k) = false := decide_eq_false (by omega)
    clear hd hb
    go_wp2
    go_ret
    exact ⟨k, HM.out, _, _, _, rfl, HD.out, HB.out⟩
end Go.Proofs.Ythpnlgdcijmocaa.Dk
