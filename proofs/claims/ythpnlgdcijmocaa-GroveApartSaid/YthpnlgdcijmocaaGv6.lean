/- The walk over (*Grove).Clone. -/
import Derived.Test.YthpnlgdcijmocaaGv5
namespace Go.Proofs.Ythpnlgdcijmocaa.Gv
open Go.RowKit Lt Pt Rg Nd Mp
set_option linter.unusedVariables false
set_option linter.unusedSimpArgs false
/-- The keys are numbers of nodes. -/
def InK (m : Int → Option NdS) : Prop := ∀ a x, m a = some x → 1 ≤ a ∧ a < 256
/-- The same nodes, in other memory. -/
def RelM (m m2 : Int → Option NdS) : Prop := ∀ a, (m a = none → m2 a = none) ∧ ∀ x, m a = some x → ∃ v', m2 a = some { x with v := v' }
theorem rd_frm {W W' : World} {b : Nat} {A : Option Addr} {xs : List Value} (hr : Rd W A xs) {es : Array MapEntry} {c : Nat} (hb : W.heap[b]? = some (.map es c)) (hf : Fr (fun x => x = b) W W') : Rd W' A xs := fun i hi => by
  obtain ⟨ad, e, h1⟩ := hr i hi
  refine ⟨ad, e, ?_⟩
  rw [List.getElem?_eq_getElem hi] at h1 ⊢
  exact cell_fr h1 hf (fun e2 => by
    have := cell_map hb e2
    rw [this] at h1
    cases h1)
theorem ird_frm {W W' : World} {b : Nat} {v : Value} {l : List Int} (h : IRd W v l) {es : Array MapEntry} {c : Nat} (hb : W.heap[b]? = some (.map es c)) (hf : Fr (fun x => x = b) W W') : IRd W' v l := by
  obtain ⟨A, cp, rfl, hc, hr⟩ := h
  exact ⟨A, cp, rfl, hc, rd_frm hr hb hf⟩
/-- While a clone is made: those of ids so far. -/
def Part (m m2 : Int → Option NdS) (l : List Int) : Prop := ∀ a, (a ∉ l → m2 a = none) ∧ (a ∈ l → ∀ x, m a = some x → ∃ v', m2 a = some { x with v := v' })
theorem part_nil (m : Int → Option NdS) : Part m (fun _ => none) [] := fun a => ⟨fun _ => rfl, fun h => by cases h⟩
theorem part_snoc {m m2 : Int → Option NdS} {l : List Int} (h : Part m m2 l) {k : Int} {x : NdS} (hx : m k = some x) (v' : Value) : Part m (updN m2 k (some { x with v := v' })) (l ++ [k]) := fun a => by
  unfold updN
  by_cases e : a = k
  · subst e
    refine ⟨fun hn => absurd (List.mem_append.2 (.inr List.mem_cons_self)) hn, fun _ y hy => ?_⟩
    rw [if_pos rfl]
    rw [hx] at hy
    cases hy
    exact ⟨v', rfl⟩
  · rw [if_neg e]
    refine ⟨fun hn => (h a).1 (fun hm => hn (List.mem_append.2 (.inl hm))), fun hm y hy => (h a).2 ?_ y hy⟩
    rcases List.mem_append.1 hm with hm | hm
    · exact hm
    · exact absurd (List.mem_singleton.1 hm) e
theorem part_rel {m m2 : Int → Option NdS} (hk : InK m) (h : Part m m2 (idsL m 256)) : RelM m m2 := fun a => by
  refine ⟨fun hn => (h a).1 (fun hm => ?_), fun x hx => (h a).2 ?_ x hx⟩
  · rw [idsL_mem, hn] at hm
    cases hm.2.2
  · rw [idsL_mem]
    have := hk a x hx
    exact ⟨this.1, by omega, by rw [hx]; rfl⟩
theorem RelM.inK {m m2 : Int → Option NdS} (h : RelM m m2) (hk : InK m) : InK m2 := fun a x hx => by
  cases hm : m a with
  | none => rw [(h a).1 hm] at hx; cases hx
  | some y => exact hk a y hm
theorem RelM.some {m m2 : Int → Option NdS} (h : RelM m m2) (a : Int) : (m2 a).isSome = (m a).isSome := by
  cases hm : m a with
  | none => rw [(h a).1 hm]
  | some y => obtain ⟨v', e⟩ := (h a).2 y hm; rw [e]; rfl
set_option maxHeartbeats 4000000 in
set_option maxRecDepth 100000 in
theorem clone_gv {W : World} {p b n : Nat} {m : Int → Option NdS} (h : GvAt W p b n m) (hk : InK m) :
    Calls Try.prog 23 #[.pointer (some ⟨p, 0, none⟩)] W fun e w' => ∃ p2 b2 m2, e = .returned (.pointer (some ⟨p2, 0, none⟩)) ∧ GvAt w' p2 b2 256 m2 ∧ RelM m m2 ∧ W.heap.size ≤ b2 ∧ W.heap.size ≤ p2 ∧ Below W.heap.size W w' := by
  have HG := Lib.hid h
  have HIs := Lib.hid (is_ok h.1)
  have HPR := Lib.hid (fun m2 => part_rel (m2 := m2) hk)
  clear h hk
  go_enter Try.func23, Try.ntmps23
  go_wp2_with fail
  (with_reducible refine HIs.out.mono ?_); rintro e w2 ⟨rfl, rfl⟩
  go_wp2_with fail
  (with_reducible refine (new_ok W).mono ?_); rintro e w1 ⟨rfl, hp1, hm1, hb1⟩
  have HN := Lib.hid (And.intro hp1 hm1)
  have HB1 := Lib.hid hb1
  clear hp1 hm1 hb1
  go_wp2_with fail
  (with_reducible refine (ids_ok (HG.out.up HB1.out)).mono ?_); rintro e w2 ⟨vi, rfl, ho, hb⟩
  have HI := Lib.hid (ird_own ho)
  have HB2 := Lib.hid (below_up HB1.out hb)
  have HN2 := Lib.hid (And.intro (block_up HN.out.1 hb) (HN.out.2.up hb))
  have hL := idsL_len m 256
  clear ho hb HN
  obtain ⟨Ai, ci, rfl, _, _⟩ := id HI.out
  generalize hb2 : W.heap.size = b2 at *
  go_wp2_with fail
  go_loopw [13] (fun vj W' => ∃ (j : Nat) (m2 : Int → Option NdS), vj = .int .i64 j ∧ j ≤ (idsL m 256).length ∧ GvAt W' (b2 + 1) b2 j m2 ∧ Part m m2 ((idsL m 256).take j) ∧ IRd W' (.slice Ai (idsL m 256).length ci) (idsL m 256) ∧ Below b2 W W') (fun vj _ => (idsL m 256).length - (intOf vj).toNat)
  case atStart => exact ⟨0, fun _ => none, rfl, Nat.zero_le _, ⟨HN2.out.1, HN2.out.2, fun a x hx => by cases hx⟩, by rw [List.take_zero]; exact part_nil m, HI.out, HB2.out⟩
  case round =>
  obtain ⟨j, m2, rfl, hj, hG2, hP, hIr, hB⟩ := hrel
  have HG2 := Lib.hid hG2; have HP := Lib.hid hP; have HIr := Lib.hid hIr; have HB := Lib.hid hB
  clear hG2 hP hIr hB
  by_cases hjl : j < (idsL m 256).length
  · have dj : decide (j < (idsL m 256).length) = true := decide_eq_true hjl
    have bj : (j : Int) < (idsL m 256).length := by omega
    obtain ⟨ai, rfl, hci⟩ := HIr.out.get hjl
    have hst : (idsL m 256).take (j + 1) = (idsL m 256).take j ++ [(idsL m 256)[j]] := List.take_succ_eq_append_getElem hjl
    have hmem := (idsL_mem m 256 _).1 (List.getElem_mem hjl)
    generalize (idsL m 256)[j] = k at *
    obtain ⟨hk1, hk2, hk3⟩ := hmem
    have HST := Lib.hid hst
    clear hst
    obtain ⟨x, hx⟩ : ∃ x, m k = some x := by
      cases hm : m k with
      | none => rw [hm] at hk3; cases hk3
      | some x => exact ⟨x, rfl⟩
    have HXk := Lib.hid hx
    have hgs : Hid (GvAt wr p b n m) := Lib.hid (HG.out.up (hb2 ▸ HB.out))
    have hpr := hgs.out.2.2 k x hx
    have HPx := Lib.hid hpr
    have hlk0 : ∀ W', Below wr.heap.size wr W' → (Instr.lookup 73 (.map (some b)) (.int .i64 k) false).run Try.prog W' = .ok (nv x) W' := fun W' hb' => by
      have := (hgs.out.up hb').look1 (id := k) ⟨by omega, by omega⟩
      rw [hx] at this
      exact this
    have HLk := Lib.hid hlk0
    clear hlk0 hx hk3
    go_upto_region 7 with (fail)
    clear hci
    obtain ⟨lf, v, pts, next, ks, cs⟩ := x
    simp only at HLk HPx hpr
    obtain ⟨⟨A, c, rfl, _, _⟩, hpl⟩ := hpr
    have HQ : Hid (∀ W', Below wr.heap.size wr W' → (W'.cell? ⟨b2 + 1, 0, none⟩ = some (.map (some b2))) ∧ (W'.cell? ⟨p, 0, none⟩ = some (.map (some b))) ∧ ((Instr.lookup 73 (.map (some b)) (.int .i64 k) false).run Try.prog W' = .ok (nv ⟨lf, .slice A pts.length c, pts, next, ks, cs⟩) W') ∧ Below wr.heap.size wr W') := Lib.hid (fun W' hb =>
      ⟨by rw [cell_block (HG2.out.up hb).1]; rfl, by rw [cell_block (hgs.out.up hb).1]; rfl, HLk.out W' hb, hb⟩)
    refine beginS (S := fun W' => (W'.cell? ⟨b2 + 1, 0, none⟩ = some (.map (some b2))) ∧ (W'.cell? ⟨p, 0, none⟩ = some (.map (some b))) ∧ ((Instr.lookup 73 (.map (some b)) (.int .i64 k) false).run Try.prog W' = .ok (nv ⟨lf, .slice A pts.length c, pts, next, ks, cs⟩) W') ∧ Below wr.heap.size wr W') [12] (by kernel_rfl) (HQ.out _ below_drew1) (fun hHeld0 => ?_)
    have HD := Lib.hid (below_drew1 (w := wr))
    generalize (World.drew wr) = W0 at *
    refine takeF (i := 0) (v := ?_) rfl (by kernel_rfl) (fun _ _ _ h => h) (Or.inl ⟨by kernel_rfl, ?_⟩) (by assumption) ?_; rotate_left; (focus (intro w _; go_simp; (try with_reducible rfl); done)); (try simp only [Act.put, List.getElem_toArray, List.getElem_cons_succ, List.getElem_cons_zero, List.setIfInBounds_toArray, List.set_cons_zero, List.set_cons_succ])
    refine takeF (i := 1) (v := ?_) rfl (by kernel_rfl) (fun _ _ _ h => h) (Or.inl ⟨by kernel_rfl, ?_⟩) (by assumption) ?_; rotate_left; (focus (intro w _; go_simp; (try with_reducible rfl); done)); (try simp only [Act.put, List.getElem_toArray, List.getElem_cons_succ, List.getElem_cons_zero, List.setIfInBounds_toArray, List.set_cons_zero, List.set_cons_succ])
    refine takeF (i := 2) (v := ?_) rfl (by kernel_rfl) (fun _ _ _ h => h) (Or.inl ⟨by kernel_rfl, ?_⟩) (by assumption) ?_; rotate_left; (focus (intro w _; go_simp; (try with_reducible rfl); done)); (try simp only [Act.put, List.getElem_toArray, List.getElem_cons_succ, List.getElem_cons_zero, List.setIfInBounds_toArray, List.set_cons_zero, List.set_cons_succ])
    refine takeH (i := 3) (v := ?_) rfl (by kernel_rfl) (fun _ _ _ h => h) (Or.inl ⟨by kernel_rfl, ?_⟩) (by assumption) ?_; rotate_left; (focus (intro w hSw; (try dsimp only at hSw); go_simp; (try with_reducible rfl); done)); (try simp only [Act.put, List.getElem_toArray, List.getElem_cons_succ, List.getElem_cons_zero, List.setIfInBounds_toArray, List.set_cons_zero, List.set_cons_succ])
    refine takeF (i := 4) (v := ?_) rfl (by kernel_rfl) (fun _ _ _ h => h) (Or.inl ⟨by kernel_rfl, ?_⟩) (by assumption) ?_; rotate_left; (focus (intro w _; go_simp; (try with_reducible rfl); done)); (try simp only [Act.put, List.getElem_toArray, List.getElem_cons_succ, List.getElem_cons_zero, List.setIfInBounds_toArray, List.set_cons_zero, List.set_cons_succ])
    refine takeF (i := 5) (v := ?_) rfl (by kernel_rfl) (fun _ _ _ h => h) (Or.inl ⟨by kernel_rfl, ?_⟩) (by assumption) ?_; rotate_left; (focus (intro w _; go_simp; (try with_reducible rfl); done)); (try simp only [Act.put, List.getElem_toArray, List.getElem_cons_succ, List.getElem_cons_zero, List.setIfInBounds_toArray, List.set_cons_zero, List.set_cons_succ])
    refine takeF (i := 6) (v := ?_) rfl (by kernel_rfl) (fun _ _ _ h => h) (Or.inl ⟨by kernel_rfl, ?_⟩) (by assumption) ?_; rotate_left; (focus (intro w _; go_simp; (try with_reducible rfl); done)); (try simp only [Act.put, List.getElem_toArray, List.getElem_cons_succ, List.getElem_cons_zero, List.setIfInBounds_toArray, List.set_cons_zero, List.set_cons_succ])
    refine takeF (i := 7) (v := ?_) rfl (by kernel_rfl) (fun _ _ _ h => h) (Or.inl ⟨by kernel_rfl, ?_⟩) (by assumption) ?_; rotate_left; (focus (intro w _; go_simp; (try with_reducible rfl); done)); (try simp only [Act.put, List.getElem_toArray, List.getElem_cons_succ, List.getElem_cons_zero, List.setIfInBounds_toArray, List.set_cons_zero, List.set_cons_succ])
    refine takeH (i := 8) (v := ?_) rfl (by kernel_rfl) (fun _ _ _ h => h) (Or.inl ⟨by kernel_rfl, ?_⟩) (by assumption) ?_; rotate_left; (focus (intro w hSw; (try dsimp only at hSw); go_simp; (try with_reducible rfl); done)); (try simp only [Act.put, List.getElem_toArray, List.getElem_cons_succ, List.getElem_cons_zero, List.setIfInBounds_toArray, List.set_cons_zero, List.set_cons_succ])
    refine takeF (i := 9) (v := ?_) rfl (by kernel_rfl) (fun _ _ _ h => h) (Or.inl ⟨by kernel_rfl, ?_⟩) (by assumption) ?_; rotate_left; (focus (intro w _; go_simp; (try with_reducible rfl); done)); (try simp only [Act.put, List.getElem_toArray, List.getElem_cons_succ, List.getElem_cons_zero, List.setIfInBounds_toArray, List.set_cons_zero, List.set_cons_succ])
    refine takeH (i := 10) (v := ?_) rfl (by kernel_rfl) (fun _ _ _ h => h) (Or.inl ⟨by kernel_rfl, ?_⟩) (by assumption) ?_; rotate_left; (focus (intro w hSw; (try dsimp only at hSw); go_simp; (try with_reducible rfl); done)); (try simp only [Act.put, List.getElem_toArray, List.getElem_cons_succ, List.getElem_cons_zero, List.setIfInBounds_toArray, List.set_cons_zero, List.set_cons_succ])
    clear hHeld0
    have HOwn := Lib.hid (gown_ok ⟨lf, .slice A pts.length c, pts, next, ks, cs⟩ W0 (HPx.out.1.below HD.out) (by simp only; omega))
    refine readyS (rs := [11]) (by kernel_rfl) (by simp) ?_
    refine ReadyS.consH rfl (fun K hK => ?_) ReadyS.nil
    (try simp only [List.getElem_toArray, List.getElem_cons_succ, List.getElem_cons_zero])
    go_simp
    (with_reducible refine HOwn.out.mono ?_); rintro e W1 ⟨v', rfl, ho, hb⟩
    have HD1 := Lib.hid (below_up HD.out hb)
    obtain ⟨A', c', rfl, _⟩ := own_rd ho
    have HO := Lib.hid ho
    clear ho
    refine hK.out _ _ (HQ.out _ HD1.out) (fun hHeld => ?_)
    clear hK K
    (try simp only [Act.put, List.getElem_toArray, List.getElem_cons_succ, List.getElem_cons_zero, List.setIfInBounds_toArray, List.set_cons_zero, List.set_cons_succ])
    clear hb hHeld
    refine readyS (rs := [12]) (by kernel_rfl) (by simp) ?_
    refine ReadyS.consP rfl (by kernel_rfl) (fun K hK => ?_) ReadyS.nil
    (try simp only [List.getElem_toArray, List.getElem_cons_succ, List.getElem_cons_zero])
    rw [if_pos (by kernel_rfl)]
    refine wp_mapset _ _ _ (by rfl) (HG2.out.up HD1.out).2.1 keyI mapN (by unfold maxLen; omega) (c := k) ⟨by omega, by omega⟩ (nv ⟨lf, .slice A' pts.length c', pts, next, ks, cs⟩) (by rfl) (by rfl) (by rfl) ?_
    intro W2 hM hF
    have HM := Lib.hid hM
    have HF := Lib.hid hF
    clear hM hF
    refine hK.out _ _ ?_
    clear hK K
    (try simp only [Act.put, List.getElem_toArray, List.getElem_cons_succ, List.getElem_cons_zero, List.setIfInBounds_toArray, List.set_cons_zero, List.set_cons_succ])
    refine doneS (by kernel_rfl) ?_ _
    obtain ⟨es, cl, hbm⟩ := (HG2.out.up HD1.out).2.1.blk
    have HBM := Lib.hid hbm
    clear hbm
    have hG3 : Hid (GvAt W2 (b2 + 1) b2 (j + 1) (updN m2 k (some ⟨lf, .slice A' pts.length c', pts, next, ks, cs⟩))) := Lib.hid ⟨
      blk_fr (HG2.out.up HD1.out).1 HF.out (fun e => by omega), by rw [updN_map]; exact HM.out, fun a y hy => by
        unfold updN at hy
        split at hy
        · cases hy
          exact ⟨prd_frm (srd_own PtS.cells_len (by decide) HO.out) HBM.out HF.out, hpl⟩
        · have := (HG2.out.up HD1.out).2.2 a y hy
          exact ⟨prd_frm this.1 HBM.out HF.out, this.2⟩⟩
    have hP3 : Hid (Part m (updN m2 k (some ⟨lf, .slice A' pts.length c', pts, next, ks, cs⟩)) ((idsL m 256).take (j + 1))) := Lib.hid (by rw [HST.out]; exact part_snoc HP.out HXk.out _)
    have hI3 := Lib.hid (ird_frm (HIr.out.below HD1.out) HBM.out HF.out)
    have hB3 : Hid (Below b2 W W2) := Lib.hid (((Fr.of_below (S := fun q => b2 ≤ q) (below_up (hb2 ▸ HB.out) HD1.out)).trans HF.out (fun q _ e => by omega)).toBelow (fun _ h => h) (by omega))
    go_wp2
    exact ⟨⟨j + 1, _, by go_num, by omega, hG3.out, hP3.out, hI3.out, hB3.out⟩, by simp [intOf]; omega⟩
  · obtain rfl : j = (idsL m 256).length := by omega
    have dj : decide ((idsL m 256).length < (idsL m 256).length) = false := decide_eq_false (by omega)
    have hR := HPR.out m2 (by have := HP.out; rwa [List.take_length] at this)
    have HR := Lib.hid hR
    clear hR
    go_wp2
    go_ret
    exact ⟨b2 + 1, b2, m2, rfl, ⟨HG2.out.1, HG2.out.2.1.mono hL, HG2.out.2.2⟩, HR.out, by omega, by omega, by rw [hb2]; exact HB.out⟩
end Go.Proofs.Ythpnlgdcijmocaa.Gv
