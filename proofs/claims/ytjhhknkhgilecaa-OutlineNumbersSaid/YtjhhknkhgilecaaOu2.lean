/- The walks over outline.Lines (of the empty tree), croftlaw37.alive, OutlineNumbers. -/
import Derived.Test.YtjhhknkhgilecaaOu1
import Derived.Test.YtjhhknkhgilecaaN3
import Derived.Test.YtjhhknkhgilecaaN4
namespace Go.Proofs.Ytjhhknkhgilecaa.Ou
open Go.RowKit Lt Pt Rg Nd Gv Mp
set_option linter.unusedVariables false
set_option linter.unusedSimpArgs false
set_option maxHeartbeats 2000000 in
theorem lines_empty {w : World} {p b : Nat} {m : Int → Option NdS} {v : Value} (h : EmptyAt w p b m v) :
    Calls Try.prog 45 #[.pointer (some ⟨p, 0, none⟩)] w fun e w' => ∃ G c, e = .returned (.slice (some ⟨G, 0, none⟩) 1 c) ∧ w'.cell? ⟨G, 0, none⟩ = some (.string ⟨#[108, 101, 97, 102]⟩) ∧ Below w.heap.size w w' := by
  have hmm := @run_makeMap Try.prog
  have s1 := fun (W : World) (o : Obj) => (show (W.alloc o).heap.size = W.heap.size + 1 by unfold World.alloc; simp)
  have hm0 := made Try.prog 3 w
  have hz := s1 w (.map #[] 0)
  have hb1 := below_alloc1 w (.map #[] 0)
  have hq := alloc_at (w := w.alloc (.map #[] 0)) (.cells #[.pointer (some ⟨p, 0, none⟩), .map (some w.heap.size), .slice none 0 0] 149) hz.symm
  have hb2 := below_alloc hb1 (.cells #[.pointer (some ⟨p, 0, none⟩), .map (some w.heap.size), .slice none 0 0] 149)
  have hm2 := hm0.up (below_alloc1 (w.alloc (.map #[] 0)) (.cells #[.pointer (some ⟨p, 0, none⟩), .map (some w.heap.size), .slice none 0 0] 149))
  have hlt := h.g.2.1.lt
  have HW := Lib.hid (write_root (q := w.heap.size + 1) (bm := w.heap.size) hq (h.up hb2) hm2 (by omega) (by omega))
  have HB := Lib.hid hb2
  clear s1 hm0 hz hb1 hq hb2 hm2 hlt h
  go_enter Try.func45, Try.ntmps45
  go_wp2_with fail
  (with_reducible refine HW.out.mono ?_); rintro e w1 ⟨rfl, G, c, c2, cG, hf⟩
  have HE : Hid (w1.cell? ⟨G, 0, none⟩ = some (.string ⟨#[108, 101, 97, 102]⟩) ∧ Below w.heap.size w w1) := Lib.hid ⟨cG, ((Fr.of_below (S := fun k => w.heap.size ≤ k) HB.out).trans hf (fun k _ h => by rcases h with h | h <;> omega)).toBelow (fun _ h => h) (Nat.le_refl _)⟩
  clear cG hf
  go_wp2
  go_ret
  exact ⟨_, _, rfl, HE.out⟩
theorem dec12 : bstr (dec (-12)) = ⟨#[45, 49, 50]⟩ := by
  have h1 : dgs 12 = [49, 50] := by rw [dgs_big (by decide), dgs_small (by decide)]; rfl
  unfold dec
  rw [if_pos (by decide), show (-12 : Int).natAbs = 12 from rfl, h1]
  rfl
set_option maxHeartbeats 2000000 in
theorem alive_ok (w : World) : Calls Try.prog 21 #[] w fun e w' => e = .returned (.bool true) ∧ Below w.heap.size w w' := by
  have HE := Lib.hid (fun W => empty_ok W)
  have hn := fun W => number_ok (-12) W (by decide)
  rw [dec12] at hn
  have HN := Lib.hid hn
  clear hn
  go_enter Try.func21, Try.ntmps21
  go_wp2_with fail
  (with_reducible refine (HE.out _).mono ?_); rintro e w1 ⟨m, v, rfl, hE, hb⟩
  have HL := Lib.hid (lines_empty hE)
  have HB := Lib.hid hb
  clear hE hb
  go_wp2_with fail
  (with_reducible refine HL.out.mono ?_); rintro e w2 ⟨G, c, rfl, cG, hb⟩
  have HB2 := Lib.hid (below_up HB.out hb)
  clear hb
  go_wp2_with fail
  (refine (HN.out _).mono ?_); rintro e w3 ⟨rfl, hb⟩
  have HB3 := Lib.hid (below_up HB2.out hb)
  clear hb
  go_wp2
  go_ret
  exact ⟨rfl, HB3.out⟩
set_option maxHeartbeats 2000000 in
theorem numbers_walk (n : Int) (p : PtS) (w : World) (hn : -9223372036854775808 ≤ n ∧ n ≤ 9223372036854775807) (hp : p.fine) :
    Calls Try.prog 5 #[.int .i64 n, Pt.pv p] w fun e w' => e = .returned (.bool true) ∧ Below w.heap.size w w' := by
  have HN := Lib.hid (fun W => number_ok n W hn)
  have HR := Lib.hid (fun W => refnumber_ok n W hn)
  have HP := Lib.hid (fun W => opoint_ok p W hp)
  have HQ := Lib.hid (fun W => refp_ok p W hp)
  have HA := Lib.hid (fun W => alive_ok W)
  generalize bstr (dec n) = sn at *
  generalize ptD p = sp at *
  have hq := alloc_at (w := w) (.cells #[.int .i64 p.id, .int .u32 (p.x : Nat), .int .u32 (p.y : Nat), .string p.d] 41) rfl
  have hb := below_alloc1 w (.cells #[.int .i64 p.id, .int .u32 (p.x : Nat), .int .u32 (p.y : Nat), .string p.d] 41)
  have HS := Lib.hid (And.intro hq hb)
  clear hq hb hn hp
  go_enter Try.func5, Try.ntmps5
  go_upto_region 1 with (fail)
  generalize (World.alloc w _) = W1 at *
  have HD0 := Lib.hid (below_drew1 (w := W1))
  have HSt : Hid (∀ W', Below W1.heap.size W1 W' → (W'.cell? ⟨w.heap.size, 0, none⟩ = some (.int .i64 p.id) ∧ W'.cell? ⟨w.heap.size, 1, none⟩ = some (.int .u32 (p.x : Nat)) ∧ W'.cell? ⟨w.heap.size, 2, none⟩ = some (.int .u32 (p.y : Nat)) ∧ W'.cell? ⟨w.heap.size, 3, none⟩ = some (.string p.d))) := Lib.hid (fun W' hb => cells4 (block_up HS.out.1 hb))
  refine beginS (S := fun W' => (W'.cell? ⟨w.heap.size, 0, none⟩ = some (.int .i64 p.id) ∧ W'.cell? ⟨w.heap.size, 1, none⟩ = some (.int .u32 (p.x : Nat)) ∧ W'.cell? ⟨w.heap.size, 2, none⟩ = some (.int .u32 (p.y : Nat)) ∧ W'.cell? ⟨w.heap.size, 3, none⟩ = some (.string p.d))) [] (by kernel_rfl) (HSt.out _ HD0.out) (fun hHeld0 => ?_)
  generalize (World.drew W1) = W0 at *
  refine takeF (i := 0) (v := ?_) rfl (by kernel_rfl) (fun _ _ _ h => h) (Or.inl ⟨by kernel_rfl, ?_⟩) (by assumption) ?_; rotate_left; (focus (intro w _; go_simp; (try with_reducible rfl); done)); (try simp only [Act.put, List.getElem_toArray, List.getElem_cons_succ, List.getElem_cons_zero, List.setIfInBounds_toArray, List.set_cons_zero, List.set_cons_succ])
  refine takeF (i := 2) (v := ?_) rfl (by kernel_rfl) (fun _ _ _ h => h) (Or.inl ⟨by kernel_rfl, ?_⟩) (by assumption) ?_; rotate_left; (focus (intro w _; go_simp; (try with_reducible rfl); done)); (try simp only [Act.put, List.getElem_toArray, List.getElem_cons_succ, List.getElem_cons_zero, List.setIfInBounds_toArray, List.set_cons_zero, List.set_cons_succ])
  clear hHeld0
  refine readyS (rs := [1]) (by kernel_rfl) (by simp) ?_
  refine ReadyS.consH rfl (fun K hK => ?_) ReadyS.nil
  (try simp only [List.getElem_toArray, List.getElem_cons_succ, List.getElem_cons_zero])
  go_simp
  (with_reducible refine (HN.out _).mono ?_); rintro e W2 ⟨rfl, hb⟩
  have HD2 := Lib.hid (below_up HD0.out hb); clear hb
  refine hK.out _ _ (HSt.out _ HD2.out) (fun hHeld => ?_)
  clear hK K
  (try simp only [Act.put, List.getElem_toArray, List.getElem_cons_succ, List.getElem_cons_zero, List.setIfInBounds_toArray, List.set_cons_zero, List.set_cons_succ])
  clear hHeld
  refine readyS (rs := [3]) (by kernel_rfl) (by simp) ?_
  refine ReadyS.consH rfl (fun K hK => ?_) ReadyS.nil
  (try simp only [List.getElem_toArray, List.getElem_cons_succ, List.getElem_cons_zero])
  go_simp
  (with_reducible refine (HR.out _).mono ?_); rintro e W3 ⟨rfl, hb⟩
  have HD3 := Lib.hid (below_up HD2.out hb); clear hb
  refine hK.out _ _ (HSt.out _ HD3.out) (fun hHeld => ?_)
  clear hK K
  (try simp only [Act.put, List.getElem_toArray, List.getElem_cons_succ, List.getElem_cons_zero, List.setIfInBounds_toArray, List.set_cons_zero, List.set_cons_succ])
  refine takeF (i := 4) (v := ?_) rfl (by kernel_rfl) (fun _ _ _ h => h) (Or.inl ⟨by kernel_rfl, ?_⟩) (by assumption) ?_; rotate_left; (focus (intro w _; go_simp; (try with_reducible rfl); done)); (try simp only [Act.put, List.getElem_toArray, List.getElem_cons_succ, List.getElem_cons_zero, List.setIfInBounds_toArray, List.set_cons_zero, List.set_cons_succ])
  refine takeF (i := 5) (v := ?_) rfl (by kernel_rfl) (fun _ _ _ h => h) (Or.inl ⟨by kernel_rfl, ?_⟩) (by assumption) ?_; rotate_left; (focus (intro w _; go_simp; (try with_reducible rfl); done)); (try simp only [Act.put, List.getElem_toArray, List.getElem_cons_succ, List.getElem_cons_zero, List.setIfInBounds_toArray, List.set_cons_zero, List.set_cons_succ])
  refine takeH (i := 6) (v := ?_) rfl (by kernel_rfl) (fun _ _ _ h => h) (Or.inl ⟨by kernel_rfl, ?_⟩) (by assumption) ?_; rotate_left; (focus (intro w hSw; (try dsimp only at hSw); go_simp; (try with_reducible rfl); done)); (try simp only [Act.put, List.getElem_toArray, List.getElem_cons_succ, List.getElem_cons_zero, List.setIfInBounds_toArray, List.set_cons_zero, List.set_cons_succ])
  refine takeH (i := 8) (v := ?_) rfl (by kernel_rfl) (fun _ _ _ h => h) (Or.inl ⟨by kernel_rfl, ?_⟩) (by assumption) ?_; rotate_left; (focus (intro w hSw; (try dsimp only at hSw); go_simp; (try with_reducible rfl); done)); (try simp only [Act.put, List.getElem_toArray, List.getElem_cons_succ, List.getElem_cons_zero, List.setIfInBounds_toArray, List.set_cons_zero, List.set_cons_succ])
  clear hHeld
  refine readyS (rs := [7]) (by kernel_rfl) (by simp) ?_
  refine ReadyS.consH rfl (fun K hK => ?_) ReadyS.nil
  (try simp only [List.getElem_toArray, List.getElem_cons_succ, List.getElem_cons_zero])
  go_simp
  (with_reducible refine (HP.out _).mono ?_); rintro e W4 ⟨rfl, hb⟩
  have HD4 := Lib.hid (below_up HD3.out hb); clear hb
  refine hK.out _ _ (HSt.out _ HD4.out) (fun hHeld => ?_)
  clear hK K
  (try simp only [Act.put, List.getElem_toArray, List.getElem_cons_succ, List.getElem_cons_zero, List.setIfInBounds_toArray, List.set_cons_zero, List.set_cons_succ])
  clear hHeld
  refine readyS (rs := [9]) (by kernel_rfl) (by simp) ?_
  refine ReadyS.consH rfl (fun K hK => ?_) ReadyS.nil
  (try simp only [List.getElem_toArray, List.getElem_cons_succ, List.getElem_cons_zero])
  go_simp
  (with_reducible refine (HQ.out _).mono ?_); rintro e W5 ⟨rfl, hb⟩
  have HD5 := Lib.hid (below_up HD4.out hb); clear hb
  refine hK.out _ _ (HSt.out _ HD5.out) (fun hHeld => ?_)
  clear hK K
  (try simp only [Act.put, List.getElem_toArray, List.getElem_cons_succ, List.getElem_cons_zero, List.setIfInBounds_toArray, List.set_cons_zero, List.set_cons_succ])
  refine takeF (i := 10) (v := ?_) rfl (by kernel_rfl) (fun _ _ _ h => h) (Or.inl ⟨by kernel_rfl, ?_⟩) (by assumption) ?_; rotate_left; (focus (intro w _; go_simp; (try with_reducible rfl); done)); (try simp only [Act.put, List.getElem_toArray, List.getElem_cons_succ, List.getElem_cons_zero, List.setIfInBounds_toArray, List.set_cons_zero, List.set_cons_succ])
  refine takeF (i := 11) (v := ?_) rfl (by kernel_rfl) (fun _ _ _ h => h) (Or.inl ⟨by kernel_rfl, ?_⟩) (by assumption) ?_; rotate_left; (focus (intro w _; go_simp; (try with_reducible rfl); done)); (try simp only [Act.put, List.getElem_toArray, List.getElem_cons_succ, List.getElem_cons_zero, List.setIfInBounds_toArray, List.set_cons_zero, List.set_cons_succ])
  refine takeF (i := 12) (v := ?_) rfl (by kernel_rfl) (fun _ _ _ h => h) (Or.inl ⟨by kernel_rfl, ?_⟩) (by assumption) ?_; rotate_left; (focus (intro w _; go_simp; (try with_reducible rfl); done)); (try simp only [Act.put, List.getElem_toArray, List.getElem_cons_succ, List.getElem_cons_zero, List.setIfInBounds_toArray, List.set_cons_zero, List.set_cons_succ])
  clear hHeld
  refine readyS (rs := [13]) (by kernel_rfl) (by simp) ?_
  refine ReadyS.consH rfl (fun K hK => ?_) ReadyS.nil
  (try simp only [List.getElem_toArray, List.getElem_cons_succ, List.getElem_cons_zero])
  go_simp
  (with_reducible refine (HA.out _).mono ?_); rintro e W6 ⟨rfl, hb⟩
  have HD6 := Lib.hid (below_up HD5.out hb); clear hb
  refine hK.out _ _ (HSt.out _ HD6.out) (fun hHeld => ?_)
  clear hK K
  (try simp only [Act.put, List.getElem_toArray, List.getElem_cons_succ, List.getElem_cons_zero, List.setIfInBounds_toArray, List.set_cons_zero, List.set_cons_succ])
  refine takeF (i := 14) (v := ?_) rfl (by kernel_rfl) (fun _ _ _ h => h) (Or.inl ⟨by kernel_rfl, ?_⟩) (by assumption) ?_; rotate_left; (focus (intro w _; go_simp; (try with_reducible rfl); done)); (try simp only [Act.put, List.getElem_toArray, List.getElem_cons_succ, List.getElem_cons_zero, List.setIfInBounds_toArray, List.set_cons_zero, List.set_cons_succ])
  refine takeF (i := 15) (v := ?_) rfl (by kernel_rfl) (fun _ _ _ h => h) (Or.inl ⟨by kernel_rfl, ?_⟩) (by assumption) ?_; rotate_left; (focus (intro w _; go_simp; (try with_reducible rfl); done)); (try simp only [Act.put, List.getElem_toArray, List.getElem_cons_succ, List.getElem_cons_zero, List.setIfInBounds_toArray, List.set_cons_zero, List.set_cons_succ])
  clear hHeld
  refine doneS (by kernel_rfl) ?_ _
  go_wp2
  go_ret
  exact ⟨rfl, below_up HS.out.2 HD6.out⟩
end Go.Proofs.Ytjhhknkhgilecaa.Ou
