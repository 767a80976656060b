/- The walk over croftlaw14.DiskSure. -/
import Derived.Test.YthpnlgdcijmocaaDk13
namespace Go.Proofs.Ythpnlgdcijmocaa.Dk
open Go.RowKit Rg Mp
set_option linter.unusedVariables false
set_option linter.unusedSimpArgs false
section
variable {L : Int → Prop} {W W' w0 : World} {base N g r : Nat} {vs vw vf : Value} {d d' : DkS}
theorem stay_i (h : DAt L W base N g vs vw r d) {v : Value} {l : List Int} (h0 : IRd w0 v l) (hb : Below w0.heap.size w0 W) (hle : w0.heap.size ≤ base) (W' : World) (hf : Fr (DO g vs vw r) W W') : IRd W' v l := h0.below (hb.trans ((DO_bel h hf).mono hle))
theorem stay_b (h : DAt L W base N g vs vw r d) {v : Value} {l : Oc} (h0 : BRd w0 v l) (hb : Below w0.heap.size w0 W) (hle : w0.heap.size ≤ base) (W' : World) (hf : Fr (DO g vs vw r) W W') : BRd W' v l := h0.below (hb.trans ((DO_bel h hf).mono hle))
end
theorem fate1_far (d : DkS) (w : Wt) (f : Int) (j : Nat) (h : w.1 ≠ j) : (fate1 d w f).sure.getD j [] = d.sure.getD j [] := by
  have key : ∀ b o, (put d w.1 b o).sure.getD j [] = d.sure.getD j [] := fun b o => by
    simp only [put, List.getD_eq_getElem?_getD, List.getElem?_set_ne h]
  unfold fate1
  split
  · exact key _ _
  · split
    · rfl
    · unfold tear
      split
      · exact key _ _
      · split
        · rfl
        · exact key _ _
theorem setN_far (d : DkS) (ws : List Wt) (fs : List Int) (j : Nat) (h : ∀ w ∈ ws, w.1 ≠ j) : ∀ i, i ≤ ws.length → (setN d ws fs i).sure.getD j [] = d.sure.getD j []
  | 0, _ => rfl
  | i + 1, hi => by
    refine (fate1_far _ _ _ j ?_).trans (setN_far d ws fs j h i (by omega))
    rw [List.getD_eq_getElem?_getD, List.getElem?_eq_getElem (by omega)]
    exact h _ (List.getElem_mem _)
def sure4 (A B : Oc) : DkS := { sure := [zero256, A, zero256, zero256], waits := [(2, B), (3, B)], odd := [false, false, false, false], off := false, cut := 0, fates := [], fail := -1 }
theorem sure_plain (A B : Oc) (hA : A.length = 256) (hB : B.length = 256) :
    (wrE (new 4) 1 A = 0 ∧ wrD (new 4) 1 A = { new 4 with waits := [(1, A)] }) ∧ (flE { new 4 with waits := [(1, A)] } = 0 ∧ flD { new 4 with waits := [(1, A)] } = { sure4 A B with waits := [] }) ∧
    (wrE { sure4 A B with waits := [] } 2 B = 0 ∧ wrD { sure4 A B with waits := [] } 2 B = { sure4 A B with waits := [(2, B)] }) ∧ (wrE { sure4 A B with waits := [(2, B)] } 3 B = 0 ∧ wrD { sure4 A B with waits := [(2, B)] } 3 B = sure4 A B) ∧
    (∀ fs, cutD (sure4 A B) 0 fs = fall (sure4 A B) fs ∧ rdE (fall (sure4 A B) fs) 1 = 20 ∧ rdV (fall (sure4 A B) fs) 1 = [] ∧ brk (fall (sure4 A B) fs) = fall (sure4 A B) fs ∧ ∀ ms, rdE (power (fall (sure4 A B) fs) ms) 1 = 0 ∧ rdV (power (fall (sure4 A B) fs) ms) 1 = A ∧ (power (fall (sure4 A B) fs) ms).waits = [] ∧ (brk (power (fall (sure4 A B) fs) ms)).waits = []) := by
  refine ⟨⟨?_, ?_⟩, ⟨rfl, rfl⟩, ⟨?_, ?_⟩, ⟨?_, ?_⟩, fun fs => ⟨rfl, rfl, rfl, rfl, fun ms => ?_⟩⟩
  · unfold wrE; rw [show brkB (new 4) = false from rfl, show (new 4).sure.length = 4 from rfl, if_neg (by decide), if_neg (by decide), if_neg (by omega)]
  · unfold wrD; rw [show brkB (new 4) = false from rfl, show (new 4).sure.length = 4 from rfl, if_neg (by decide), if_neg (by decide), if_neg (by omega)]; rfl
  · unfold wrE; rw [show brkB { sure4 A B with waits := [] } = false from rfl, show ({ sure4 A B with waits := [] } : DkS).sure.length = 4 from rfl, if_neg (by decide), if_neg (by decide), if_neg (by omega)]
  · unfold wrD; rw [show brkB { sure4 A B with waits := [] } = false from rfl, show ({ sure4 A B with waits := [] } : DkS).sure.length = 4 from rfl, if_neg (by decide), if_neg (by decide), if_neg (by omega)]; rfl
  · unfold wrE; rw [show brkB { sure4 A B with waits := [(2, B)] } = false from rfl, show ({ sure4 A B with waits := [(2, B)] } : DkS).sure.length = 4 from rfl, if_neg (by decide), if_neg (by decide), if_neg (by omega)]
  · unfold wrD; rw [show brkB { sure4 A B with waits := [(2, B)] } = false from rfl, show ({ sure4 A B with waits := [(2, B)] } : DkS).sure.length = 4 from rfl, if_neg (by decide), if_neg (by decide), if_neg (by omega)]; rfl
  · have hp : power (fall (sure4 A B) fs) ms = { settle (sure4 A B) fs with off := false, cut := 0, fail := -1 } := rfl
    have hlen : (settle (sure4 A B) fs).sure.length = 4 := settle_len _ _
    have h1 : brkB (power (fall (sure4 A B) fs) ms) = false := rfl
    have hg : (settle (sure4 A B) fs).sure.getD 1 [] = A := setN_far (sure4 A B) [(2, B), (3, B)] fs 1 (by simp) 2 (Nat.le_refl 2)
    have hl2 : (power (fall (sure4 A B) fs) ms).sure.length = 4 := hlen
    refine ⟨?_, ?_, rfl, rfl⟩
    · unfold rdE; rw [h1, hl2, if_neg (by decide), if_neg (by decide)]
    · unfold rdV; rw [h1, hl2, if_neg (by decide), if_neg (by decide)]
      exact hg
set_option maxHeartbeats 8000000 in
set_option maxRecDepth 100000 in
theorem sure_walk (a b : Nat) (ha : a < 256) (hb : b < 256) (vf vm : Value) (fs ms : List Int) (w : World) (hf : IRd w vf fs) (hfl : fs.length * 8 ≤ 140737488351232) (hfi : ∀ x ∈ fs, i64 x) (hm : IRd w vm ms) (hml : ms.length * 8 ≤ 140737488351232) (hmi : ∀ x ∈ ms, i64 x) :
    Calls Try.prog 10 #[.int .u8 (a : Nat), .int .u8 (b : Nat), vf, vm] w fun e w' => e = .returned (.bool true) ∧ Below w.heap.size w w' := by
  have HAl := Lib.hid (fun W => alive_ok W)
  have HNw := Lib.hid (fun W => dnew_ok 4 (by unfold i64; decide) W)
  have HFa := Lib.hid (fun W => full_ok a ha W)
  have HFb := Lib.hid (fun W => full_ok b hb W)
  have HF := Lib.hid (And.intro hf (And.intro hfl hfi))
  have HM := Lib.hid (And.intro hm (And.intro hml hmi))
  have hla := full_len a
  have hlb := full_len b
  obtain ⟨A, hA⟩ : ∃ A, fullB a = A := ⟨_, rfl⟩
  obtain ⟨B, hB⟩ : ∃ B, fullB b = B := ⟨_, rfl⟩
  rw [hA] at hla HFa
  rw [hB] at hlb HFb
  obtain ⟨⟨p1, p2⟩, ⟨p3, p4⟩, ⟨p5, p6⟩, ⟨p7, p8⟩, p9⟩ := sure_plain A B hla hlb
  have HLa := Lib.hid (And.intro hla hlb)
  have HFa2 := Lib.hid HFa.out
  obtain ⟨Af, cf, rfl, _, _⟩ := id hf
  obtain ⟨Am, cm, rfl, _, _⟩ := id hm
  have HP := Lib.hid (And.intro (And.intro p1 p2) (And.intro (And.intro p3 p4) (And.intro (And.intro p5 p6) (And.intro (And.intro p7 p8) (p9 fs)))))
  have hz : ((0 : Nat) : Int) = 0 := rfl
  clear p1 p2 p3 p4 p5 p6 p7 p8 p9 ha hb hf hm hfl hfi hml hmi hla hlb hA hB
  go_enter Try.func10, Try.ntmps10
  go_wp2_with fail
  (with_reducible refine (HAl.out _).mono ?_); rintro e w1 ⟨rfl, hb1⟩
  have H1 := Lib.hid hb1
  clear hb1
  go_wp2_with fail
  (with_reducible refine (HNw.out _).mono ?_); rintro e w2 ⟨m, hm, g, vs, r, rfl, hd, hb2⟩
  obtain rfl : m = 4 := by omega
  have HBs := Lib.hid H1.out.size
  have H2 := Lib.hid (And.intro hb2 hd)
  clear hb2 hd hm
  -- the first write
  go_wp2_with fail
  (with_reducible refine (HFa.out _).mono ?_); rintro e w3 ⟨v3, rfl, hs3, hb3⟩
  have hd3 := H2.out.2.up hb3
  have HW1 := Lib.hid (dwrite_ok hd3 (by decide) (by decide) (by intro x hx; cases hx) 1 (by unfold i64; decide) (stay_s hd3 hs3) (by rw [HLa.out.1]; decide))
  rw [HP.out.1.1, HP.out.1.2, hz] at HW1
  have H3 := Lib.hid (And.intro (H2.out.1.trans (hb3.mono H2.out.1.size)) hd3)
  clear hs3 hb3 hd3
  go_wp2_with fail
  (with_reducible refine HW1.out.mono ?_); rintro e w4 ⟨rfl, hdt⟩
  have hb4 := H3.out.1.trans (hdt.bel H3.out.2)
  obtain ⟨vw4, hd4, _, _⟩ := hdt
  have HFl := Lib.hid (dflush_ok hd4 (by simp [new, sure4]) (by simp [new, sure4]) (by intro x hx; cases hx))
  rw [HP.out.2.1.1, HP.out.2.1.2, hz] at HFl
  have H4 := Lib.hid (And.intro hb4 hd4)
  clear hb4 hd4 HW1
  go_wp2_with fail
  (with_reducible refine HFl.out.mono ?_); rintro e w5 ⟨rfl, hdt⟩
  have hb5 := H4.out.1.trans (hdt.bel H4.out.2)
  obtain ⟨vw5, hd5, _, _⟩ := hdt
  have H5 := Lib.hid (And.intro hb5 hd5)
  clear hb5 hd5 HFl
  go_wp2_with fail
  (with_reducible refine (HFb.out _).mono ?_); rintro e w6 ⟨v6, rfl, hs6, hb6⟩
  have hd6 := H5.out.2.up hb6
  have HW2 := Lib.hid (dwrite_ok hd6 (by simp [new, sure4]) (by simp [new, sure4]) (by intro x hx; cases hx) 2 (by unfold i64; decide) (stay_s hd6 hs6) (by rw [HLa.out.2]; decide))
  rw [HP.out.2.2.1.1, HP.out.2.2.1.2, hz] at HW2
  have H6 := Lib.hid (And.intro (H5.out.1.trans (hb6.mono H5.out.2.hasbase)) hd6)
  clear hs6 hb6 hd6
  go_wp2_with fail
  (with_reducible refine HW2.out.mono ?_); rintro e w7 ⟨rfl, hdt⟩
  have hb7 := H6.out.1.trans (hdt.bel H6.out.2)
  obtain ⟨vw7, hd7, _, _⟩ := hdt
  have H7 := Lib.hid (And.intro hb7 hd7)
  clear hb7 hd7 HW2
  go_wp2_with fail
  (with_reducible refine (HFb.out _).mono ?_); rintro e w8 ⟨v8, rfl, hs8, hb8⟩
  have hd8 := H7.out.2.up hb8
  have HW3 := Lib.hid (dwrite_ok hd8 (by simp [new, sure4]) (by simp [new, sure4]) (by intro x hx; cases hx) 3 (by unfold i64; decide) (stay_s hd8 hs8) (by rw [HLa.out.2]; decide))
  rw [HP.out.2.2.2.1.1, HP.out.2.2.2.1.2, hz] at HW3
  have H8 := Lib.hid (And.intro (H7.out.1.trans (hb8.mono H7.out.2.hasbase)) hd8)
  clear hs8 hb8 hd8
  go_wp2_with fail
  (with_reducible refine HW3.out.mono ?_); rintro e w9 ⟨rfl, hdt⟩
  have hb9 := H8.out.1.trans (hdt.bel H8.out.2)
  obtain ⟨vw9, hd9, _, _⟩ := hdt
  have hw9 : Below w.heap.size w w9 := H1.out.trans (hb9.mono HBs.out)
  have HCu := Lib.hid (dcut_ok hd9 (by simp [new, sure4]) 0 (by unfold i64; decide) (stay_i hd9 HF.out.1 hw9 HBs.out) (by have := HF.out.2.1; omega) HF.out.2.2 (by have := HF.out.2.1; omega))
  rw [HP.out.2.2.2.2.1] at HCu
  have H9 := Lib.hid (And.intro hb9 hd9)
  clear hb9 hd9 hw9 HW3
  go_wp2_with fail
  (with_reducible refine HCu.out.mono ?_); rintro e w10 ⟨rfl, hdt⟩
  have hb10 := H9.out.1.trans (hdt.bel H9.out.2)
  obtain ⟨vw10, hd10, _, _⟩ := hdt
  have HR1 := Lib.hid (dread_ok hd10 (by rw [show (fall (sure4 A B) fs).waits = [] from rfl]; simp) 1 (by unfold i64; decide))
  rw [HP.out.2.2.2.2.2.1, HP.out.2.2.2.2.2.2.1, HP.out.2.2.2.2.2.2.2.1, show ((20 : Nat) : Int) = 20 from rfl] at HR1
  have H10 := Lib.hid (And.intro hb10 hd10)
  clear hb10 hd10 HCu
  go_wp2_with fail
  (with_reducible refine HR1.out.mono ?_); rintro e w11 ⟨v11, rfl, ho11, hdt⟩
  have hb11 := H10.out.1.trans (hdt.bel H10.out.2)
  obtain ⟨vw11, hd11, _, _⟩ := hdt
  have hw11 : Below w.heap.size w w11 := H1.out.trans (hb11.mono HBs.out)
  obtain ⟨A11, c11, e11, _⟩ := own_rd ho11
  subst e11
  have hz2 : (fall (sure4 A B) fs).waits.length = 0 := rfl
  have HPw := Lib.hid (dpower_ok hd11 (by rw [hz2]; simp [new, sure4]) (stay_i hd11 HM.out.1 hw11 HBs.out) (by have := HM.out.2.1; omega) HM.out.2.2)
  have H11 := Lib.hid (And.intro hb11 hd11)
  clear hb11 hd11 hw11 HR1 ho11
  go_wp2_with fail
  (with_reducible refine HPw.out.mono ?_); rintro e w12 ⟨rfl, hdt⟩
  have hb12 := H11.out.1.trans (hdt.bel H11.out.2)
  obtain ⟨vw12, hd12, _, _⟩ := hdt
  have HQ := Lib.hid (HP.out.2.2.2.2.2.2.2.2 ms)
  have HR2 := Lib.hid (dread_ok hd12 (by rw [HQ.out.2.2.1]; simp) 1 (by unfold i64; decide))
  rw [HQ.out.1, HQ.out.2.1, hz] at HR2
  have H12 := Lib.hid (And.intro hb12 hd12)
  clear hb12 hd12 HPw
  go_wp2_with fail
  (with_reducible refine HR2.out.mono ?_); rintro e w13 ⟨v13, rfl, ho13, hdt⟩
  have hb13 := H12.out.1.trans (hdt.bel H12.out.2)
  obtain ⟨vw13, hd13, _, _⟩ := hdt
  have H13 := Lib.hid (And.intro hb13 (And.intro hd13 ho13))
  obtain ⟨A13, c13, e13, _⟩ := own_rd ho13
  subst e13
  clear hb13 hd13 HR2 ho13
  go_wp2_with fail
  have hdw := below_drew1 (w := w13)
  have H14 := Lib.hid (And.intro (H13.out.1.trans (hdw.mono H13.out.2.1.hasbase)) (And.intro (H13.out.2.1.up hdw) (own_below H13.out.2.2 hdw)))
  have q0 := conv_b (brd_own H14.out.2.2) (Below.refl w13.drew.heap.size w13.drew)
  have HQ4 := Lib.hid HQ.out.2.2.2
  clear hdw H2 H3 H4 H5 H6 H7 H8 H9 H10 H11 H12 H13 HM HF HP HNw HAl HFa
  refine beginS (S := fun W' => (convert 78 9 (.slice A13 A.length c13)).run Try.prog W' = .ok (.string (bstr A)) W') [] (by kernel_rfl) q0 (fun hHeld0 => ?_)
  generalize (World.drew _) = W0 at *
  clear q0
  refine takeF (i := 0) (v := ?_) rfl (by kernel_rfl) (fun _ _ _ h => h) (Or.inl ⟨by kernel_rfl, ?_⟩) (by assumption) ?_; rotate_left; (focus (intro w _; go_simp; (try with_reducible rfl); done)); (try simp only [Act.put, List.getElem_toArray, List.getElem_cons_succ, List.getElem_cons_zero, List.setIfInBounds_toArray, List.set_cons_zero, List.set_cons_succ])
  refine takeF (i := 1) (v := ?_) rfl (by kernel_rfl) (fun _ _ _ h => h) (Or.inl ⟨by kernel_rfl, ?_⟩) (by assumption) ?_; rotate_left; (focus (intro w _; go_simp; (try with_reducible rfl); done)); (try simp only [Act.put, List.getElem_toArray, List.getElem_cons_succ, List.getElem_cons_zero, List.setIfInBounds_toArray, List.set_cons_zero, List.set_cons_succ])
  refine takeF (i := 2) (v := ?_) rfl (by kernel_rfl) (fun _ _ _ h => h) (Or.inl ⟨by kernel_rfl, ?_⟩) (by assumption) ?_; rotate_left; (focus (intro w _; go_simp; (try with_reducible rfl); done)); (try simp only [Act.put, List.getElem_toArray, List.getElem_cons_succ, List.getElem_cons_zero, List.setIfInBounds_toArray, List.set_cons_zero, List.set_cons_succ])
  refine takeF (i := 3) (v := ?_) rfl (by kernel_rfl) (fun _ _ _ h => h) (Or.inl ⟨by kernel_rfl, ?_⟩) (by assumption) ?_; rotate_left; (focus (intro w _; go_simp; (try with_reducible rfl); done)); (try simp only [Act.put, List.getElem_toArray, List.getElem_cons_succ, List.getElem_cons_zero, List.setIfInBounds_toArray, List.set_cons_zero, List.set_cons_succ])
  refine takeF (i := 4) (v := ?_) rfl (by kernel_rfl) (fun _ _ _ h => h) (Or.inl ⟨by kernel_rfl, ?_⟩) (by assumption) ?_; rotate_left; (focus (intro w _; go_simp; (try with_reducible rfl); done)); (try simp only [Act.put, List.getElem_toArray, List.getElem_cons_succ, List.getElem_cons_zero, List.setIfInBounds_toArray, List.set_cons_zero, List.set_cons_succ])
  refine takeF (i := 5) (v := ?_) rfl (by kernel_rfl) (fun _ _ _ h => h) (Or.inl ⟨by kernel_rfl, ?_⟩) (by assumption) ?_; rotate_left; (focus (intro w _; go_simp; (try with_reducible rfl); done)); (try simp only [Act.put, List.getElem_toArray, List.getElem_cons_succ, List.getElem_cons_zero, List.setIfInBounds_toArray, List.set_cons_zero, List.set_cons_succ])
  refine takeF (i := 6) (v := ?_) rfl (by kernel_rfl) (fun _ _ _ h => h) (Or.inl ⟨by kernel_rfl, ?_⟩) (by assumption) ?_; rotate_left; (focus (intro w _; go_simp; (try with_reducible rfl); done)); (try simp only [Act.put, List.getElem_toArray, List.getElem_cons_succ, List.getElem_cons_zero, List.setIfInBounds_toArray, List.set_cons_zero, List.set_cons_succ])
  refine takeF (i := 7) (v := ?_) rfl (by kernel_rfl) (fun _ _ _ h => h) (Or.inl ⟨by kernel_rfl, ?_⟩) (by assumption) ?_; rotate_left; (focus (intro w _; go_simp; (try with_reducible rfl); done)); (try simp only [Act.put, List.getElem_toArray, List.getElem_cons_succ, List.getElem_cons_zero, List.setIfInBounds_toArray, List.set_cons_zero, List.set_cons_succ])
  refine takeH (i := 8) (v := ?_) rfl (by kernel_rfl) (fun _ _ _ h => h) (Or.inl ⟨by kernel_rfl, ?_⟩) (by assumption) ?_; rotate_left; (focus (intro w hSw; (try dsimp only at hSw); go_simp; (try with_reducible rfl); done)); (try simp only [Act.put, List.getElem_toArray, List.getElem_cons_succ, List.getElem_cons_zero, List.setIfInBounds_toArray, List.set_cons_zero, List.set_cons_succ])
  refine takeF (i := 9) (v := ?_) rfl (by kernel_rfl) (fun _ _ _ h => h) (Or.inl ⟨by kernel_rfl, ?_⟩) (by assumption) ?_; rotate_left; (focus (intro w _; go_simp; (try with_reducible rfl); done)); (try simp only [Act.put, List.getElem_toArray, List.getElem_cons_succ, List.getElem_cons_zero, List.setIfInBounds_toArray, List.set_cons_zero, List.set_cons_succ])
  clear hHeld0
  have HFa := Lib.hid (HFa2.out W0)
  refine readyS (rs := [10]) (by kernel_rfl) (by simp) ?_
  refine ReadyS.consH rfl (fun K hK => ?_) ReadyS.nil
  (try simp only [List.getElem_toArray, List.getElem_cons_succ, List.getElem_cons_zero])
  go_simp
  (with_reducible refine HFa.out.mono ?_); rintro e W1 ⟨v1, rfl, ho, hb⟩
  have q1 := conv_b (brd_own (own_below H14.out.2.2 hb)) (Below.refl W1.heap.size W1)
  have q2 := conv_b (brd_own ho) (Below.refl W1.heap.size W1)
  have H15 := Lib.hid (And.intro (H14.out.1.trans (hb.mono H14.out.2.1.hasbase)) (H14.out.2.1.up hb))
  clear ho hb
  refine hK.out _ _ (q1) (fun hHeld => ?_)
  clear hK K
  (try simp only [Act.put, List.getElem_toArray, List.getElem_cons_succ, List.getElem_cons_zero, List.setIfInBounds_toArray, List.set_cons_zero, List.set_cons_succ])
  clear hHeld HFa
  refine readyS (rs := [11]) (by kernel_rfl) (by simp) ?_
  refine ReadyS.consH rfl (fun K hK => ?_) ReadyS.nil
  (try simp only [List.getElem_toArray, List.getElem_cons_succ, List.getElem_cons_zero])
  go_simp
  refine hK.out _ _ (q1) (fun hHeld => ?_)
  clear hK K
  (try simp only [Act.put, List.getElem_toArray, List.getElem_cons_succ, List.getElem_cons_zero, List.setIfInBounds_toArray, List.set_cons_zero, List.set_cons_succ])
  refine takeF (i := 12) (v := ?_) rfl (by kernel_rfl) (fun _ _ _ h => h) (Or.inl ⟨by kernel_rfl, ?_⟩) (by assumption) ?_; rotate_left; (focus (intro w _; go_simp; (try with_reducible rfl); done)); (try simp only [Act.put, List.getElem_toArray, List.getElem_cons_succ, List.getElem_cons_zero, List.setIfInBounds_toArray, List.set_cons_zero, List.set_cons_succ])
  refine takeF (i := 13) (v := ?_) rfl (by kernel_rfl) (fun _ _ _ h => h) (Or.inl ⟨by kernel_rfl, ?_⟩) (by assumption) ?_; rotate_left; (focus (intro w _; go_simp; (try with_reducible rfl); done)); (try simp only [Act.put, List.getElem_toArray, List.getElem_cons_succ, List.getElem_cons_zero, List.setIfInBounds_toArray, List.set_cons_zero, List.set_cons_succ])
  refine takeF (i := 14) (v := ?_) rfl (by kernel_rfl) (fun _ _ _ h => h) (Or.inl ⟨by kernel_rfl, ?_⟩) (by assumption) ?_; rotate_left; (focus (intro w _; go_simp; (try with_reducible rfl); done)); (try simp only [Act.put, List.getElem_toArray, List.getElem_cons_succ, List.getElem_cons_zero, List.setIfInBounds_toArray, List.set_cons_zero, List.set_cons_succ])
  refine takeF (i := 15) (v := ?_) rfl (by kernel_rfl) (fun _ _ _ h => h) (Or.inl ⟨by kernel_rfl, ?_⟩) (by assumption) ?_; rotate_left; (focus (intro w _; go_simp; (try with_reducible rfl); done)); (try simp only [Act.put, List.getElem_toArray, List.getElem_cons_succ, List.getElem_cons_zero, List.setIfInBounds_toArray, List.set_cons_zero, List.set_cons_succ])
  have HWt := Lib.hid (waits_ok H15.out.2)
  rw [HQ4.out, show (([] : List Wt).length : Int) = 0 from rfl] at HWt
  refine readyS (rs := [16]) (by kernel_rfl) (by simp) ?_
  refine ReadyS.consH rfl (fun K hK => ?_) ReadyS.nil
  (try simp only [List.getElem_toArray, List.getElem_cons_succ, List.getElem_cons_zero])
  go_simp
  (with_reducible refine HWt.out.mono ?_); rintro e W2 ⟨rfl, rfl⟩
  refine hK.out _ _ (q1) (fun hHeld => ?_)
  clear hK K
  (try simp only [Act.put, List.getElem_toArray, List.getElem_cons_succ, List.getElem_cons_zero, List.setIfInBounds_toArray, List.set_cons_zero, List.set_cons_succ])
  refine takeF (i := 17) (v := ?_) rfl (by kernel_rfl) (fun _ _ _ h => h) (Or.inl ⟨by kernel_rfl, ?_⟩) (by assumption) ?_; rotate_left; (focus (intro w _; go_simp; (try with_reducible rfl); done)); (try simp only [Act.put, List.getElem_toArray, List.getElem_cons_succ, List.getElem_cons_zero, List.setIfInBounds_toArray, List.set_cons_zero, List.set_cons_succ])
  refine takeF (i := 18) (v := ?_) rfl (by kernel_rfl) (fun _ _ _ h => h) (Or.inl ⟨by kernel_rfl, ?_⟩) (by assumption) ?_; rotate_left; (focus (intro w _; go_simp; (try with_reducible rfl); done)); (try simp only [Act.put, List.getElem_toArray, List.getElem_cons_succ, List.getElem_cons_zero, List.setIfInBounds_toArray, List.set_cons_zero, List.set_cons_succ])
  refine takeF (i := 19) (v := ?_) rfl (by kernel_rfl) (fun _ _ _ h => h) (Or.inl ⟨by kernel_rfl, ?_⟩) (by assumption) ?_; rotate_left; (focus (intro w _; go_simp; (try with_reducible rfl); done)); (try simp only [Act.put, List.getElem_toArray, List.getElem_cons_succ, List.getElem_cons_zero, List.setIfInBounds_toArray, List.set_cons_zero, List.set_cons_succ])
  refine doneS (by kernel_rfl) ?_ _
  have k2 : ((bstr A).toList == (bstr A).toList) = true := by rw [bstr_eqL]; exact decide_eq_true rfl
  go_wp2
  go_ret
  exact ⟨ret_bool (by first | rfl | simp), H1.out.trans (H15.out.1.mono HBs.out)⟩
end Go.Proofs.Ythpnlgdcijmocaa.Dk
