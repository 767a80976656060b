/- The walk over planner.take. -/
import Derived.Test.YthpnlgdcijmocaaPl2
namespace Go.Proofs.Ythpnlgdcijmocaa.Pl
open Go.RowKit Rg
set_option linter.unusedVariables false
set_option linter.unusedSimpArgs false
theorem takeL_stop {room : Int} {n : Nat} {s : Int} {l : List EntS} {k : Nat} (hk : k < l.length) (h : n = 64 ∨ room - s < needL l[k]) : takeL room n s (l.drop k) = (n, s) := by
  rw [List.drop_eq_getElem_cons hk]
  unfold takeL
  rw [if_pos h]
theorem takeL_go {room : Int} {n : Nat} {s : Int} {l : List EntS} {k : Nat} (hk : k < l.length) (h : ¬ (n = 64 ∨ room - s < needL l[k])) : takeL room n s (l.drop k) = takeL room (n + 1) (s + needL l[k]) (l.drop (k + 1)) := by
  rw [List.drop_eq_getElem_cons hk]
  conv => lhs; unfold takeL
  rw [if_neg h]
theorem takeL_end {room : Int} {n : Nat} {s : Int} {l : List EntS} : takeL room n s (l.drop l.length) = (n, s) := by
  rw [List.drop_length]; rfl
set_option maxHeartbeats 8000000 in
set_option maxRecDepth 100000 in
theorem take_ok {W : World} {q : Nat} {g : GeS} {p : PlcS} {v : Value} {f : Nat × Nat} (h : W.heap[q]? = some (.cells (pcs g p v) 122 f)) (o1 : 0 ≤ p.off) (o3 : g.siz ≤ 32) (hr : 2 ≤ g.siz - p.off) (vl : Value) (l : List EntS) (hv : ERd W vl l) (hl : l.length ≤ 140737488355328) :
    Calls Try.prog 98 #[.pointer (some ⟨q, 0, none⟩), vl] W fun e w' => e = .returned (.tuple #[.int .i64 ((takeL (g.siz - p.off) 0 1 l).1 : Nat), .int .i64 (takeL (g.siz - p.off) 0 1 l).2]) ∧ Below W.heap.size W w' := by
  have HX := Lib.hid h
  have HV := Lib.hid hv
  obtain ⟨A, c, rfl, _, _⟩ := hv
  obtain ⟨T, hT⟩ : ∃ T, takeL (g.siz - p.off) 0 1 l = T := ⟨_, rfl⟩
  rw [hT]
  have HT := Lib.hid hT
  obtain ⟨room, hroom⟩ : ∃ r, g.siz - p.off = r := ⟨_, rfl⟩
  rw [hroom] at HT hr
  have ks : IntKind.i64.wrap room = room := by rw [IntWalk.i64_in _ (by omega)]
  clear hT h
  go_enter Try.func98, Try.ntmps98
  go_wp2_with fail
  go_loopw [6, 7, 13] (fun vn vs vi W' => ∃ (k : Nat) (s : Int), vn = .int .i64 k ∧ vs = .int .i64 s ∧ vi = .int .i64 k ∧ k ≤ l.length ∧ k ≤ 64 ∧ 1 ≤ s ∧ s ≤ room ∧ takeL room k s (l.drop k) = T ∧ Below W.heap.size W W') (fun _ _ vi _ => l.length - (intOf vi).toNat)
  case atStart => exact ⟨0, 1, rfl, rfl, rfl, Nat.zero_le _, by omega, by omega, by omega, HT.out, Below.refl _ _⟩
  case round =>
  obtain ⟨k, s, rfl, rfl, rfl, hk, hk64, hs1, hs2, hT, hB⟩ := hrel
  have HT1 := Lib.hid hT; have HB1 := Lib.hid hB
  clear hT hB
  by_cases hkl : k < l.length
  · have d : decide ((k : Int) < l.length) = true := decide_eq_true (by omega)
    have dn : decide (k < l.length) = true := decide_eq_true hkl
    have bk : (k : Int) < l.length := by omega
    obtain ⟨gl, ol, rfl, _, hc⟩ := (HV.out.below HB1.out).get EntS.cells_len (by decide) hkl
    have c0 := hc 0 (by decide)
    have c1 := hc 1 (by decide)
    have hst := @takeL_stop room k s l k hkl
    have hgo := @takeL_go room k s l k hkl
    clear hc
    generalize l[k] = e at *
    simp only [Nat.add_zero, EntS.cells, List.getElem?_cons_zero, List.getElem?_cons_succ] at c0 c1
    have hn01 := needL_01 e
    have hnd : needL e = if e.kind = 1 then 1 else 0 := rfl
    obtain ⟨nd, hnd2⟩ : ∃ n, needL e = n := ⟨_, rfl⟩
    rw [hnd2] at hst hgo hn01 hnd
    have HSt := Lib.hid (And.intro hst hgo)
    have HNd := Lib.hid hnd
    have HBa := Lib.hid (below_up HB1.out (below_alloc1 wr (.cells #[.int .i64 e.kind, .int .i64 e.id] 39)))
    clear hst hgo hnd hnd2
    have z0 := (alloc_at (w := wr) (.cells #[.int .i64 e.kind, .int .i64 e.id] 39) rfl)
    have HZ0 := Lib.hid (show (wr.alloc (.cells #[.int .i64 e.kind, .int .i64 e.id] 39)).cell? ⟨wr.heap.size, 0, none⟩ = some (.int .i64 e.kind) from by rw [cell_block z0]; rfl)
    clear z0
    go_upto_if 19 with (fail)
    generalize hwa : World.alloc wr _ = wa at *
    clear hwa c0 c1
    go_cut [10] (fun v10 wx => v10 = .int .i64 nd ∧ wx = wa)
    case first =>
      by_cases hk1 : e.kind = 1
      · have e1 : (e.kind == 1) = true := by rw [beq_iff_eq]; exact hk1
        have hn := HNd.out
        rw [if_pos hk1] at hn
        subst hn
        go_wp2
        go_meet
        case rel => exact ⟨rfl, rfl⟩
      · have e1 : (e.kind == 1) = false := by rw [beq_eq_false_iff_ne]; exact hk1
        have hn := HNd.out
        rw [if_neg hk1] at hn
        subst hn
        go_wp2
        go_meet
        case rel => exact ⟨rfl, rfl⟩
    case rest =>
    obtain ⟨rfl, hw⟩ := hcut
    replace hw := hw.symm; subst hw
    go_upto_region 8 with (fail)
    have HD := Lib.hid (below_up HBa.out (below_drew1 (w := wa)))
    have HQ := Lib.hid (pl_all (block_up HX.out HD.out))
    by_cases h64 : k = 64
    · subst h64
      refine beginS (S := fun W' => True) [] (by kernel_rfl) trivial (fun hHeld0 => ?_)
      generalize (World.drew wa) = W0 at *
      rw [show ((64 : Nat) : Int) = 64 from rfl]
      refine takeF (i := 0) (v := ?_) rfl (by kernel_rfl) (fun _ _ _ h => h) (Or.inl ⟨by kernel_rfl, ?_⟩) (by assumption) ?_; rotate_left; (focus (intro w _; go_simp; (try with_reducible rfl); done)); (try simp only [Act.put, List.getElem_toArray, List.getElem_cons_succ, List.getElem_cons_zero, List.setIfInBounds_toArray, List.set_cons_zero, List.set_cons_succ])
      refine takeF (i := 1) (v := ?_) rfl (by kernel_rfl) (fun _ _ _ h => h) (Or.inl ⟨by kernel_rfl, ?_⟩) (by assumption) ?_; rotate_left; (focus (intro w _; go_simp; (try with_reducible rfl); done)); (try simp only [Act.put, List.getElem_toArray, List.getElem_cons_succ, List.getElem_cons_zero, List.setIfInBounds_toArray, List.set_cons_zero, List.set_cons_succ])
      refine takeF (i := 2) (v := ?_) rfl (by kernel_rfl) (fun _ _ _ h => h) (Or.inl ⟨by kernel_rfl, ?_⟩) (by assumption) ?_; rotate_left; (focus (intro w _; go_simp; (try with_reducible rfl); done)); (try simp only [Act.put, List.getElem_toArray, List.getElem_cons_succ, List.getElem_cons_zero, List.setIfInBounds_toArray, List.set_cons_zero, List.set_cons_succ])
      refine takeF (i := 3) (v := undef) rfl (by kernel_rfl) (fun _ _ _ h => h) (Or.inr ⟨by kernel_rfl, rfl⟩) (by assumption) ?_; (try simp only [Act.put, List.getElem_toArray, List.getElem_cons_succ, List.getElem_cons_zero, List.setIfInBounds_toArray, List.set_cons_zero, List.set_cons_succ])
      refine takeF (i := 4) (v := undef) rfl (by kernel_rfl) (fun _ _ _ h => h) (Or.inr ⟨by kernel_rfl, rfl⟩) (by assumption) ?_; (try simp only [Act.put, List.getElem_toArray, List.getElem_cons_succ, List.getElem_cons_zero, List.setIfInBounds_toArray, List.set_cons_zero, List.set_cons_succ])
      refine takeF (i := 5) (v := undef) rfl (by kernel_rfl) (fun _ _ _ h => h) (Or.inr ⟨by kernel_rfl, rfl⟩) (by assumption) ?_; (try simp only [Act.put, List.getElem_toArray, List.getElem_cons_succ, List.getElem_cons_zero, List.setIfInBounds_toArray, List.set_cons_zero, List.set_cons_succ])
      refine takeF (i := 6) (v := undef) rfl (by kernel_rfl) (fun _ _ _ h => h) (Or.inr ⟨by kernel_rfl, rfl⟩) (by assumption) ?_; (try simp only [Act.put, List.getElem_toArray, List.getElem_cons_succ, List.getElem_cons_zero, List.setIfInBounds_toArray, List.set_cons_zero, List.set_cons_succ])
      refine takeF (i := 7) (v := undef) rfl (by kernel_rfl) (fun _ _ _ h => h) (Or.inr ⟨by kernel_rfl, rfl⟩) (by assumption) ?_; (try simp only [Act.put, List.getElem_toArray, List.getElem_cons_succ, List.getElem_cons_zero, List.setIfInBounds_toArray, List.set_cons_zero, List.set_cons_succ])
      refine takeF (i := 8) (v := undef) rfl (by kernel_rfl) (fun _ _ _ h => h) (Or.inr ⟨by kernel_rfl, rfl⟩) (by assumption) ?_; (try simp only [Act.put, List.getElem_toArray, List.getElem_cons_succ, List.getElem_cons_zero, List.setIfInBounds_toArray, List.set_cons_zero, List.set_cons_succ])
      refine takeF (i := 9) (v := undef) rfl (by kernel_rfl) (fun _ _ _ h => h) (Or.inr ⟨by kernel_rfl, rfl⟩) (by assumption) ?_; (try simp only [Act.put, List.getElem_toArray, List.getElem_cons_succ, List.getElem_cons_zero, List.setIfInBounds_toArray, List.set_cons_zero, List.set_cons_succ])
      refine takeF (i := 10) (v := undef) rfl (by kernel_rfl) (fun _ _ _ h => h) (Or.inr ⟨by kernel_rfl, rfl⟩) (by assumption) ?_; (try simp only [Act.put, List.getElem_toArray, List.getElem_cons_succ, List.getElem_cons_zero, List.setIfInBounds_toArray, List.set_cons_zero, List.set_cons_succ])
      refine takeF (i := 11) (v := undef) rfl (by kernel_rfl) (fun _ _ _ h => h) (Or.inr ⟨by kernel_rfl, rfl⟩) (by assumption) ?_; (try simp only [Act.put, List.getElem_toArray, List.getElem_cons_succ, List.getElem_cons_zero, List.setIfInBounds_toArray, List.set_cons_zero, List.set_cons_succ])
      refine takeF (i := 12) (v := undef) rfl (by kernel_rfl) (fun _ _ _ h => h) (Or.inr ⟨by kernel_rfl, rfl⟩) (by assumption) ?_; (try simp only [Act.put, List.getElem_toArray, List.getElem_cons_succ, List.getElem_cons_zero, List.setIfInBounds_toArray, List.set_cons_zero, List.set_cons_succ])
      refine takeF (i := 13) (v := undef) rfl (by kernel_rfl) (fun _ _ _ h => h) (Or.inr ⟨by kernel_rfl, rfl⟩) (by assumption) ?_; (try simp only [Act.put, List.getElem_toArray, List.getElem_cons_succ, List.getElem_cons_zero, List.setIfInBounds_toArray, List.set_cons_zero, List.set_cons_succ])
      refine takeF (i := 14) (v := undef) rfl (by kernel_rfl) (fun _ _ _ h => h) (Or.inr ⟨by kernel_rfl, rfl⟩) (by assumption) ?_; (try simp only [Act.put, List.getElem_toArray, List.getElem_cons_succ, List.getElem_cons_zero, List.setIfInBounds_toArray, List.set_cons_zero, List.set_cons_succ])
      refine takeF (i := 15) (v := undef) rfl (by kernel_rfl) (fun _ _ _ h => h) (Or.inr ⟨by kernel_rfl, rfl⟩) (by assumption) ?_; (try simp only [Act.put, List.getElem_toArray, List.getElem_cons_succ, List.getElem_cons_zero, List.setIfInBounds_toArray, List.set_cons_zero, List.set_cons_succ])
      refine takeF (i := 16) (v := undef) rfl (by kernel_rfl) (fun _ _ _ h => h) (Or.inr ⟨by kernel_rfl, rfl⟩) (by assumption) ?_; (try simp only [Act.put, List.getElem_toArray, List.getElem_cons_succ, List.getElem_cons_zero, List.setIfInBounds_toArray, List.set_cons_zero, List.set_cons_succ])
      refine takeF (i := 17) (v := undef) rfl (by kernel_rfl) (fun _ _ _ h => h) (Or.inr ⟨by kernel_rfl, rfl⟩) (by assumption) ?_; (try simp only [Act.put, List.getElem_toArray, List.getElem_cons_succ, List.getElem_cons_zero, List.setIfInBounds_toArray, List.set_cons_zero, List.set_cons_succ])
      refine takeF (i := 18) (v := ?_) rfl (by kernel_rfl) (fun _ _ _ h => h) (Or.inl ⟨by kernel_rfl, ?_⟩) (by assumption) ?_; rotate_left; (focus (intro w _; go_simp; (try with_reducible rfl); done)); (try simp only [Act.put, List.getElem_toArray, List.getElem_cons_succ, List.getElem_cons_zero, List.setIfInBounds_toArray, List.set_cons_zero, List.set_cons_succ])
      refine doneS (by kernel_rfl) ?_ _
      go_wp2
      go_ret2
      have := HSt.out.1 (by simp)
      rw [HT1.out] at this
      subst this
      exact ⟨rfl, HD.out⟩
    · have e64 : ((k : Int) == 64) = false := by rw [beq_eq_false_iff_ne]; omega
      have e64n : (k == 64) = false := by rw [beq_eq_false_iff_ne]; exact h64
      have ks2 : IntKind.i64.wrap (room - s) = room - s := by rw [IntWalk.i64_in _ (by omega)]
      have HQ2 : Hid (∀ W' : World, (W'.cell? ⟨q, 1, none⟩ = some (.int .i64 g.siz) ∧ W'.cell? ⟨q, 3, none⟩ = some (.int .i64 p.off)) → True) := Lib.hid (fun _ _ => trivial)
      refine beginS (S := fun W' => W'.cell? ⟨q, 1, none⟩ = some (.int .i64 g.siz) ∧ W'.cell? ⟨q, 3, none⟩ = some (.int .i64 p.off)) [] (by kernel_rfl) ⟨HQ.out.2.1, HQ.out.2.2.2.1⟩ (fun hHeld0 => ?_)
      generalize (World.drew wa) = W0 at *
      refine takeF (i := 0) (v := ?_) rfl (by kernel_rfl) (fun _ _ _ h => h) (Or.inl ⟨by kernel_rfl, ?_⟩) (by assumption) ?_; rotate_left; (focus (intro w _; go_simp; (try with_reducible rfl); done)); (try simp only [Act.put, List.getElem_toArray, List.getElem_cons_succ, List.getElem_cons_zero, List.setIfInBounds_toArray, List.set_cons_zero, List.set_cons_succ])
      refine takeF (i := 1) (v := ?_) rfl (by kernel_rfl) (fun _ _ _ h => h) (Or.inl ⟨by kernel_rfl, ?_⟩) (by assumption) ?_; rotate_left; (focus (intro w _; go_simp; (try with_reducible rfl); done)); (try simp only [Act.put, List.getElem_toArray, List.getElem_cons_succ, List.getElem_cons_zero, List.setIfInBounds_toArray, List.set_cons_zero, List.set_cons_succ])
      refine takeF (i := 2) (v := ?_) rfl (by kernel_rfl) (fun _ _ _ h => h) (Or.inl ⟨by kernel_rfl, ?_⟩) (by assumption) ?_; rotate_left; (focus (intro w _; go_simp; (try with_reducible rfl); done)); (try simp only [Act.put, List.getElem_toArray, List.getElem_cons_succ, List.getElem_cons_zero, List.setIfInBounds_toArray, List.set_cons_zero, List.set_cons_succ])
      refine takeF (i := 3) (v := ?_) rfl (by kernel_rfl) (fun _ _ _ h => h) (Or.inl ⟨by kernel_rfl, ?_⟩) (by assumption) ?_; rotate_left; (focus (intro w _; go_simp; (try with_reducible rfl); done)); (try simp only [Act.put, List.getElem_toArray, List.getElem_cons_succ, List.getElem_cons_zero, List.setIfInBounds_toArray, List.set_cons_zero, List.set_cons_succ])
      refine takeF (i := 4) (v := ?_) rfl (by kernel_rfl) (fun _ _ _ h => h) (Or.inl ⟨by kernel_rfl, ?_⟩) (by assumption) ?_; rotate_left; (focus (intro w _; go_simp; (try with_reducible rfl); done)); (try simp only [Act.put, List.getElem_toArray, List.getElem_cons_succ, List.getElem_cons_zero, List.setIfInBounds_toArray, List.set_cons_zero, List.set_cons_succ])
      refine takeF (i := 5) (v := ?_) rfl (by kernel_rfl) (fun _ _ _ h => h) (Or.inl ⟨by kernel_rfl, ?_⟩) (by assumption) ?_; rotate_left; (focus (intro w _; go_simp; (try with_reducible rfl); done)); (try simp only [Act.put, List.getElem_toArray, List.getElem_cons_succ, List.getElem_cons_zero, List.setIfInBounds_toArray, List.set_cons_zero, List.set_cons_succ])
      refine takeF (i := 6) (v := ?_) rfl (by kernel_rfl) (fun _ _ _ h => h) (Or.inl ⟨by kernel_rfl, ?_⟩) (by assumption) ?_; rotate_left; (focus (intro w _; go_simp; (try with_reducible rfl); done)); (try simp only [Act.put, List.getElem_toArray, List.getElem_cons_succ, List.getElem_cons_zero, List.setIfInBounds_toArray, List.set_cons_zero, List.set_cons_succ])
      refine takeF (i := 7) (v := ?_) rfl (by kernel_rfl) (fun _ _ _ h => h) (Or.inl ⟨by kernel_rfl, ?_⟩) (by assumption) ?_; rotate_left; (focus (intro w _; go_simp; (try with_reducible rfl); done)); (try simp only [Act.put, List.getElem_toArray, List.getElem_cons_succ, List.getElem_cons_zero, List.setIfInBounds_toArray, List.set_cons_zero, List.set_cons_succ])
      refine takeH (i := 8) (v := ?_) rfl (by kernel_rfl) (fun _ _ _ h => h) (Or.inl ⟨by kernel_rfl, ?_⟩) (by assumption) ?_; rotate_left; (focus (intro w hSw; (try dsimp only at hSw); go_simp; (try with_reducible rfl); done)); (try simp only [Act.put, List.getElem_toArray, List.getElem_cons_succ, List.getElem_cons_zero, List.setIfInBounds_toArray, List.set_cons_zero, List.set_cons_succ])
      refine takeF (i := 9) (v := ?_) rfl (by kernel_rfl) (fun _ _ _ h => h) (Or.inl ⟨by kernel_rfl, ?_⟩) (by assumption) ?_; rotate_left; (focus (intro w _; go_simp; (try with_reducible rfl); done)); (try simp only [Act.put, List.getElem_toArray, List.getElem_cons_succ, List.getElem_cons_zero, List.setIfInBounds_toArray, List.set_cons_zero, List.set_cons_succ])
      refine takeF (i := 10) (v := ?_) rfl (by kernel_rfl) (fun _ _ _ h => h) (Or.inl ⟨by kernel_rfl, ?_⟩) (by assumption) ?_; rotate_left; (focus (intro w _; go_simp; (try with_reducible rfl); done)); (try simp only [Act.put, List.getElem_toArray, List.getElem_cons_succ, List.getElem_cons_zero, List.setIfInBounds_toArray, List.set_cons_zero, List.set_cons_succ])
      refine takeF (i := 11) (v := ?_) rfl (by kernel_rfl) (fun _ _ _ h => h) (Or.inl ⟨by kernel_rfl, ?_⟩) (by assumption) ?_; rotate_left; (focus (intro w _; go_simp; (try with_reducible rfl); done)); (try simp only [Act.put, List.getElem_toArray, List.getElem_cons_succ, List.getElem_cons_zero, List.setIfInBounds_toArray, List.set_cons_zero, List.set_cons_succ])
      refine takeF (i := 12) (v := ?_) rfl (by kernel_rfl) (fun _ _ _ h => h) (Or.inl ⟨by kernel_rfl, ?_⟩) (by assumption) ?_; rotate_left; (focus (intro w _; go_simp; (try with_reducible rfl); done)); (try simp only [Act.put, List.getElem_toArray, List.getElem_cons_succ, List.getElem_cons_zero, List.setIfInBounds_toArray, List.set_cons_zero, List.set_cons_succ])
      refine takeH (i := 13) (v := ?_) rfl (by kernel_rfl) (fun _ _ _ h => h) (Or.inl ⟨by kernel_rfl, ?_⟩) (by assumption) ?_; rotate_left; (focus (intro w hSw; (try dsimp only at hSw); go_simp; (try with_reducible rfl); done)); (try simp only [Act.put, List.getElem_toArray, List.getElem_cons_succ, List.getElem_cons_zero, List.setIfInBounds_toArray, List.set_cons_zero, List.set_cons_succ])
      refine takeF (i := 14) (v := ?_) rfl (by kernel_rfl) (fun _ _ _ h => h) (Or.inl ⟨by kernel_rfl, ?_⟩) (by assumption) ?_; rotate_left; (focus (intro w _; go_simp; (try with_reducible rfl); done)); (try simp only [Act.put, List.getElem_toArray, List.getElem_cons_succ, List.getElem_cons_zero, List.setIfInBounds_toArray, List.set_cons_zero, List.set_cons_succ])
      refine takeF (i := 15) (v := ?_) rfl (by kernel_rfl) (fun _ _ _ h => h) (Or.inl ⟨by kernel_rfl, ?_⟩) (by assumption) ?_; rotate_left; (focus (intro w _; go_simp; (try with_reducible rfl); done)); (try simp only [Act.put, List.getElem_toArray, List.getElem_cons_succ, List.getElem_cons_zero, List.setIfInBounds_toArray, List.set_cons_zero, List.set_cons_succ])
      refine takeF (i := 16) (v := ?_) rfl (by kernel_rfl) (fun _ _ _ h => h) (Or.inl ⟨by kernel_rfl, ?_⟩) (by assumption) ?_; rotate_left; (focus (intro w _; go_simp; (try with_reducible rfl); done)); (try simp only [Act.put, List.getElem_toArray, List.getElem_cons_succ, List.getElem_cons_zero, List.setIfInBounds_toArray, List.set_cons_zero, List.set_cons_succ])
      refine takeF (i := 17) (v := ?_) rfl (by kernel_rfl) (fun _ _ _ h => h) (Or.inl ⟨by kernel_rfl, ?_⟩) (by assumption) ?_; rotate_left; (focus (intro w _; go_simp; (try with_reducible rfl); done)); (try simp only [Act.put, List.getElem_toArray, List.getElem_cons_succ, List.getElem_cons_zero, List.setIfInBounds_toArray, List.set_cons_zero, List.set_cons_succ])
      refine takeF (i := 18) (v := ?_) rfl (by kernel_rfl) (fun _ _ _ h => h) (Or.inl ⟨by kernel_rfl, ?_⟩) (by assumption) ?_; rotate_left; (focus (intro w _; go_simp; (try with_reducible rfl); done)); (try simp only [Act.put, List.getElem_toArray, List.getElem_cons_succ, List.getElem_cons_zero, List.setIfInBounds_toArray, List.set_cons_zero, List.set_cons_succ])
      clear hHeld0
      refine doneS (by kernel_rfl) ?_ _
      by_cases hfit : room - s < nd
      · have dg : decide (nd > room - s) = true := decide_eq_true hfit
        go_wp2
        go_ret2
        have := HSt.out.1 (.inr hfit)
        rw [HT1.out] at this
        subst this
        exact ⟨rfl, HD.out⟩
      · have dg : decide (nd > room - s) = false := decide_eq_false hfit
        have ks3 : IntKind.i64.wrap (s + nd) = s + nd := by rw [IntWalk.i64_in _ (by omega)]
        have hT2 := HSt.out.2 (fun hh => by rcases hh with hh | hh; exact h64 hh; exact hfit hh)
        rw [HT1.out] at hT2
        have HT2 := Lib.hid hT2
        clear hT2
        go_wp2
        exact ⟨⟨k + 1, s + nd, by go_num, rfl, by go_num, by omega, by omega, by omega, by omega, HT2.out.symm, HD.out⟩, by simp [intOf]; omega⟩
  · obtain rfl : k = l.length := by omega
    have d : decide ((l.length : Int) < l.length) = false := decide_eq_false (by omega)
    have dn : decide (l.length < l.length) = false := decide_eq_false (by omega)
    have hT := HT1.out
    rw [takeL_end] at hT
    subst hT
    go_wp2
    go_ret2
    exact ⟨rfl, HB1.out⟩
end Go.Proofs.Ythpnlgdcijmocaa.Pl
