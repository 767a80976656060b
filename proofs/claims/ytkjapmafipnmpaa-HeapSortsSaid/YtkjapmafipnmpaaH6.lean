/- The walk over (*heap.Heap).least. -/
import Derived.Test.YtkjapmafipnmpaaH4
import Derived.Test.YtkjapmafipnmpaaHL
import Derived.Test.YtkjapmafipnmpaaRg
import Derived.Deep.DeepCutAuto
namespace Go.Proofs.Ytkjapmafipnmpaa.Hp
open Go.RowKit Lt Rg HpL
set_option linter.unusedVariables false
set_option linter.unusedSimpArgs false
/-- The least of one and the first j below it. -/
def LeastTo (l : List ItS) (i j b : Nat) : Prop :=
  ∃ (hi : i < l.length) (hb : b < l.length), (b = i ∨ ∃ m, m < j ∧ b = 2 * i + 1 + m) ∧ ¬ ItS.Lt l[i] l[b] ∧ ∀ m, m < j → ∀ h : 2 * i + 1 + m < l.length, ¬ ItS.Lt l[2 * i + 1 + m] l[b]
theorem ItS.Lt.asym {a b : ItS} (h : ItS.Lt a b) : ¬ ItS.Lt b a := by unfold ItS.Lt at *; omega
theorem ItS.Lt.letr {a b c : ItS} (h1 : ¬ ItS.Lt b a) (h2 : ¬ ItS.Lt c b) : ¬ ItS.Lt c a := ItS.Lt.le_trans h1 h2
theorem least_start {l : List ItS} {i : Nat} (hi : i < l.length) : LeastTo l i 0 i := ⟨hi, hi, .inl rfl, ItS.Lt.irr _, fun m h => absurd h (Nat.not_lt_zero m)⟩
theorem least_far {l : List ItS} {i j b : Nat} (h : LeastTo l i j b) (hk : ¬ 2 * i + 1 + j < l.length) : LeastTo l i (j + 1) b := by
  obtain ⟨hi, hb, h1, h2, h3⟩ := h
  refine ⟨hi, hb, h1.imp id (fun ⟨m, hm, e⟩ => ⟨m, by omega, e⟩), h2, fun m hm hl => h3 m ?_ hl⟩
  rcases Nat.lt_or_ge m j with h | h
  · exact h
  · exact absurd (by omega : 2 * i + 1 + j < l.length) hk
theorem least_no {l : List ItS} {i j b : Nat} (h : LeastTo l i j b) (hk : 2 * i + 1 + j < l.length) (hb' : b < l.length) (hn : ¬ ItS.Lt l[2 * i + 1 + j] l[b]) : LeastTo l i (j + 1) b := by
  obtain ⟨hi, hb, h1, h2, h3⟩ := h
  refine ⟨hi, hb, h1.imp id (fun ⟨m, hm, e⟩ => ⟨m, by omega, e⟩), h2, fun m hm hl => ?_⟩
  rcases Nat.lt_or_ge m j with h | h
  · exact h3 m h hl
  · obtain rfl : m = j := by omega
    exact hn
theorem least_yes {l : List ItS} {i j b : Nat} (h : LeastTo l i j b) (hk : 2 * i + 1 + j < l.length) (hb' : b < l.length) (hn : ItS.Lt l[2 * i + 1 + j] l[b]) : LeastTo l i (j + 1) (2 * i + 1 + j) := by
  obtain ⟨hi, hb, h1, h2, h3⟩ := h
  refine ⟨hi, hk, .inr ⟨j, by omega, rfl⟩, ItS.Lt.letr hn.asym h2, fun m hm hl => ?_⟩
  rcases Nat.lt_or_ge m j with h | h
  · exact ItS.Lt.letr hn.asym (h3 m h hl)
  · obtain rfl : m = j := by omega
    exact ItS.Lt.irr _
theorem least_end {l : List ItS} {i b : Nat} (h : LeastTo l i 2 b) : Least ItS.Lt l i b := by
  obtain ⟨hi, hb, h1, h2, h3⟩ := h
  refine ⟨hi, hb, ?_, h2, fun h => h3 0 (by omega) h, fun h => h3 1 (by omega) h⟩
  rcases h1 with h | ⟨m, hm, e⟩
  · exact .inl h
  · omega
/-- What a heap's row tells of a world behind. -/
theorem HAt.view {W W' : World} {base p : Nat} {A : Option Addr} {n c : Nat} {l : List ItS} (h : HAt W base p (.slice A n c) l) (hb : Below W.heap.size W W') {i : Nat} (hi : i < l.length) :
    ∃ g, A = some ⟨g, 0, none⟩ ∧ (W'.cell? ⟨g, i * 4, none⟩ = some (.int .u64 (l[i].hi : Nat)) ∧ W'.cell? ⟨g, i * 4 + 1, none⟩ = some (.int .u64 (l[i].lo : Nat)) ∧ W'.cell? ⟨g, i * 4 + 2, none⟩ = some (.int .i64 l[i].od) ∧ W'.cell? ⟨g, i * 4 + 3, none⟩ = some (.int .i64 l[i].id)) := by
  have hs := srd_own ItS.cells_len (by decide) h.2
  obtain ⟨_, _, e, _, _, hA⟩ := own_rd h.2
  cases e
  obtain ⟨g, o, rfl, _, _⟩ := hs.get ItS.cells_len (by decide) hi
  obtain rfl : o = 0 := (hA.2 _ rfl).1
  refine ⟨g, rfl, ?_⟩
  exact (own_at4 (own_below h.2 hb) i hi).1
set_option maxHeartbeats 4000000 in
set_option maxRecDepth 100000 in
theorem least_ok {W : World} {base p : Nat} {v : Value} {l : List ItS} (h : HAt W base p v l) (i : Nat) (hi : i < l.length) (hlen : l.length ≤ 1000) :
    Calls Try.prog 60 #[.pointer (some ⟨p, 0, none⟩), .int .i64 i] W fun e w' => ∃ k : Nat, e = .returned (.int .i64 k) ∧ Least ItS.Lt l i k ∧ Below W.heap.size W w' := by
  obtain ⟨A, c, rfl, hlc, hcm, _, _⟩ := own_rd h.2
  obtain ⟨g, rfl, _⟩ := h.view (Below.refl _ _) hi
  have HH := Lib.hid h
  clear h
  have HI := Lib.hid hi
  have bi : (i : Int) < 1000 := by omega
  go_enter Try.func60, Try.ntmps60
  go_wp2_with fail
  go_loopw [5, 8] (fun vb vj W' => ∃ j b : Nat, j ≤ 2 ∧ vb = .int .i64 b ∧ vj = .int .i64 j ∧ LeastTo l i j b ∧ Below W.heap.size W W') (fun _ vj _ => 2 - (intOf vj).toNat)
  case atStart => exact ⟨0, i, by omega, rfl, rfl, least_start HI.out, Below.refl _ _⟩
  case round =>
  obtain ⟨j, b, hj, rfl, rfl, hL, hB⟩ := hrel
  have hbl : b < l.length := hL.2.1
  have HL := Lib.hid hL; clear hL
  have HB := Lib.hid hB; clear hB
  by_cases hj2 : j < 2
  · have dj : decide ((j : Int) < 2) = true := decide_eq_true (by omega)
    have bj : (j : Int) < 2 := by omega
    go_upto_region 6 with (fail)
    obtain ⟨k, hk⟩ : ∃ k : Nat, (j : Int) + (2 * (i : Int) + 1) = (k : Int) := ⟨2 * i + 1 + j, by omega⟩
    rw [hk]
    have hk' : k = 2 * i + 1 + j := by omega
    clear hk
    have HK := Lib.hid hk'
    have HD := Lib.hid (below_up HB.out (below_drew1 (w := wr)))
    have bb : (b : Int) < l.length := by omega
    by_cases hkl : k < l.length
    · have bk : (k : Int) < l.length := by omega
      have HQ : Hid (∀ W' : World, Below W.heap.size W W' → (W'.cell? ⟨p, 0, none⟩ = some (.slice (some ⟨g, 0, none⟩) l.length c)) ∧ (W'.cell? ⟨g, b * 4, none⟩ = some (.int .u64 (l[b].hi : Nat)) ∧ W'.cell? ⟨g, b * 4 + 1, none⟩ = some (.int .u64 (l[b].lo : Nat)) ∧ W'.cell? ⟨g, b * 4 + 2, none⟩ = some (.int .i64 l[b].od) ∧ W'.cell? ⟨g, b * 4 + 3, none⟩ = some (.int .i64 l[b].id)) ∧ (W'.cell? ⟨g, k * 4, none⟩ = some (.int .u64 (l[k].hi : Nat)) ∧ W'.cell? ⟨g, k * 4 + 1, none⟩ = some (.int .u64 (l[k].lo : Nat)) ∧ W'.cell? ⟨g, k * 4 + 2, none⟩ = some (.int .i64 l[k].od) ∧ W'.cell? ⟨g, k * 4 + 3, none⟩ = some (.int .i64 l[k].id)) ∧ Below W.heap.size W W') := fun W' hb => by
        obtain ⟨g1, e1, f1⟩ := HH.out.view hb hbl
        obtain ⟨g2, e2, f2⟩ := HH.out.view hb hkl
        cases e1; cases e2
        exact ⟨cells1 (HH.out.up hb).1, f1, f2, hb⟩
      have HC := Lib.hid (fun w => Less_ok l[k] l[b] w)
      have HY : Hid (ItS.Lt l[k] l[b] → LeastTo l i (j + 1) k) := Lib.hid (fun h => by subst hk'; exact least_yes HL.out hkl hbl h)
      have HN : Hid (¬ ItS.Lt l[k] l[b] → LeastTo l i (j + 1) b) := Lib.hid (fun h => by subst hk'; exact least_no HL.out hkl hbl h)
      generalize hx : l[k] = x at *
      generalize hy : l[b] = y at *
      clear hx hy hk'
      refine beginS (S := fun W' => (W'.cell? ⟨p, 0, none⟩ = some (.slice (some ⟨g, 0, none⟩) l.length c)) ∧ (W'.cell? ⟨g, b * 4, none⟩ = some (.int .u64 (y.hi : Nat)) ∧ W'.cell? ⟨g, b * 4 + 1, none⟩ = some (.int .u64 (y.lo : Nat)) ∧ W'.cell? ⟨g, b * 4 + 2, none⟩ = some (.int .i64 y.od) ∧ W'.cell? ⟨g, b * 4 + 3, none⟩ = some (.int .i64 y.id)) ∧ (W'.cell? ⟨g, k * 4, none⟩ = some (.int .u64 (x.hi : Nat)) ∧ W'.cell? ⟨g, k * 4 + 1, none⟩ = some (.int .u64 (x.lo : Nat)) ∧ W'.cell? ⟨g, k * 4 + 2, none⟩ = some (.int .i64 x.od) ∧ W'.cell? ⟨g, k * 4 + 3, none⟩ = some (.int .i64 x.id)) ∧ Below W.heap.size W W') [] (by kernel_rfl) (HQ.out _ HD.out) (fun hHeld0 => ?_)
      generalize (World.drew wr) = W0 at *
      refine takeF (i := 0) (v := ?_) rfl (by kernel_rfl) (fun _ _ _ h => h) (Or.inl ⟨by kernel_rfl, ?_⟩) (by assumption) ?_; rotate_left; (focus (intro w _; go_simp; (try with_reducible rfl); done)); (try simp only [Act.put, List.getElem_toArray, List.getElem_cons_succ, List.getElem_cons_zero, List.setIfInBounds_toArray, List.set_cons_zero, List.set_cons_succ])
      refine takeF (i := 1) (v := ?_) rfl (by kernel_rfl) (fun _ _ _ h => h) (Or.inl ⟨by kernel_rfl, ?_⟩) (by assumption) ?_; rotate_left; (focus (intro w _; go_simp; (try with_reducible rfl); done)); (try simp only [Act.put, List.getElem_toArray, List.getElem_cons_succ, List.getElem_cons_zero, List.setIfInBounds_toArray, List.set_cons_zero, List.set_cons_succ])
      refine takeF (i := 2) (v := ?_) rfl (by kernel_rfl) (fun _ _ _ h => h) (Or.inl ⟨by kernel_rfl, ?_⟩) (by assumption) ?_; rotate_left; (focus (intro w _; go_simp; (try with_reducible rfl); done)); (try simp only [Act.put, List.getElem_toArray, List.getElem_cons_succ, List.getElem_cons_zero, List.setIfInBounds_toArray, List.set_cons_zero, List.set_cons_succ])
      refine takeF (i := 3) (v := ?_) rfl (by kernel_rfl) (fun _ _ _ h => h) (Or.inl ⟨by kernel_rfl, ?_⟩) (by assumption) ?_; rotate_left; (focus (intro w _; go_simp; (try with_reducible rfl); done)); (try simp only [Act.put, List.getElem_toArray, List.getElem_cons_succ, List.getElem_cons_zero, List.setIfInBounds_toArray, List.set_cons_zero, List.set_cons_succ])
      refine takeH (i := 4) (v := ?_) rfl (by kernel_rfl) (fun _ _ _ h => h) (Or.inl ⟨by kernel_rfl, ?_⟩) (by assumption) ?_; rotate_left; (focus (intro w hSw; (try dsimp only at hSw); go_simp; (try with_reducible rfl); done)); (try simp only [Act.put, List.getElem_toArray, List.getElem_cons_succ, List.getElem_cons_zero, List.setIfInBounds_toArray, List.set_cons_zero, List.set_cons_succ])
      refine takeF (i := 5) (v := ?_) rfl (by kernel_rfl) (fun _ _ _ h => h) (Or.inl ⟨by kernel_rfl, ?_⟩) (by assumption) ?_; rotate_left; (focus (intro w _; go_simp; (try with_reducible rfl); done)); (try simp only [Act.put, List.getElem_toArray, List.getElem_cons_succ, List.getElem_cons_zero, List.setIfInBounds_toArray, List.set_cons_zero, List.set_cons_succ])
      refine takeF (i := 6) (v := ?_) rfl (by kernel_rfl) (fun _ _ _ h => h) (Or.inl ⟨by kernel_rfl, ?_⟩) (by assumption) ?_; rotate_left; (focus (intro w _; go_simp; (try with_reducible rfl); done)); (try simp only [Act.put, List.getElem_toArray, List.getElem_cons_succ, List.getElem_cons_zero, List.setIfInBounds_toArray, List.set_cons_zero, List.set_cons_succ])
      refine takeF (i := 7) (v := ?_) rfl (by kernel_rfl) (fun _ _ _ h => h) (Or.inl ⟨by kernel_rfl, ?_⟩) (by assumption) ?_; rotate_left; (focus (intro w _; go_simp; (try with_reducible rfl); done)); (try simp only [Act.put, List.getElem_toArray, List.getElem_cons_succ, List.getElem_cons_zero, List.setIfInBounds_toArray, List.set_cons_zero, List.set_cons_succ])
      refine takeF (i := 8) (v := ?_) rfl (by kernel_rfl) (fun _ _ _ h => h) (Or.inl ⟨by kernel_rfl, ?_⟩) (by assumption) ?_; rotate_left; (focus (intro w _; go_simp; (try with_reducible rfl); done)); (try simp only [Act.put, List.getElem_toArray, List.getElem_cons_succ, List.getElem_cons_zero, List.setIfInBounds_toArray, List.set_cons_zero, List.set_cons_succ])
      refine takeF (i := 9) (v := ?_) rfl (by kernel_rfl) (fun _ _ _ h => h) (Or.inl ⟨by kernel_rfl, ?_⟩) (by assumption) ?_; rotate_left; (focus (intro w _; go_simp; (try with_reducible rfl); done)); (try simp only [Act.put, List.getElem_toArray, List.getElem_cons_succ, List.getElem_cons_zero, List.setIfInBounds_toArray, List.set_cons_zero, List.set_cons_succ])
      refine takeF (i := 10) (v := ?_) rfl (by kernel_rfl) (fun _ _ _ h => h) (Or.inl ⟨by kernel_rfl, ?_⟩) (by assumption) ?_; rotate_left; (focus (intro w _; go_simp; (try with_reducible rfl); done)); (try simp only [Act.put, List.getElem_toArray, List.getElem_cons_succ, List.getElem_cons_zero, List.setIfInBounds_toArray, List.set_cons_zero, List.set_cons_succ])
      refine takeH (i := 11) (v := ?_) rfl (by kernel_rfl) (fun _ _ _ h => h) (Or.inl ⟨by kernel_rfl, ?_⟩) (by assumption) ?_; rotate_left; (focus (intro w hSw; (try dsimp only at hSw); go_simp; (try with_reducible rfl); done)); (try simp only [Act.put, List.getElem_toArray, List.getElem_cons_succ, List.getElem_cons_zero, List.setIfInBounds_toArray, List.set_cons_zero, List.set_cons_succ])
      refine takeF (i := 12) (v := ?_) rfl (by kernel_rfl) (fun _ _ _ h => h) (Or.inl ⟨by kernel_rfl, ?_⟩) (by assumption) ?_; rotate_left; (focus (intro w _; go_simp; (try with_reducible rfl); done)); (try simp only [Act.put, List.getElem_toArray, List.getElem_cons_succ, List.getElem_cons_zero, List.setIfInBounds_toArray, List.set_cons_zero, List.set_cons_succ])
      refine takeF (i := 13) (v := ?_) rfl (by kernel_rfl) (fun _ _ _ h => h) (Or.inl ⟨by kernel_rfl, ?_⟩) (by assumption) ?_; rotate_left; (focus (intro w _; go_simp; (try with_reducible rfl); done)); (try simp only [Act.put, List.getElem_toArray, List.getElem_cons_succ, List.getElem_cons_zero, List.setIfInBounds_toArray, List.set_cons_zero, List.set_cons_succ])
      refine takeH (i := 14) (v := ?_) rfl (by kernel_rfl) (fun _ _ _ h => h) (Or.inl ⟨by kernel_rfl, ?_⟩) (by assumption) ?_; rotate_left; (focus (intro w hSw; (try dsimp only at hSw); go_simp; (try with_reducible rfl); done)); (try simp only [Act.put, List.getElem_toArray, List.getElem_cons_succ, List.getElem_cons_zero, List.setIfInBounds_toArray, List.set_cons_zero, List.set_cons_succ])
      refine takeF (i := 15) (v := ?_) rfl (by kernel_rfl) (fun _ _ _ h => h) (Or.inl ⟨by kernel_rfl, ?_⟩) (by assumption) ?_; rotate_left; (focus (intro w _; go_simp; (try with_reducible rfl); done)); (try simp only [Act.put, List.getElem_toArray, List.getElem_cons_succ, List.getElem_cons_zero, List.setIfInBounds_toArray, List.set_cons_zero, List.set_cons_succ])
      refine takeF (i := 16) (v := ?_) rfl (by kernel_rfl) (fun _ _ _ h => h) (Or.inl ⟨by kernel_rfl, ?_⟩) (by assumption) ?_; rotate_left; (focus (intro w _; go_simp; (try with_reducible rfl); done)); (try simp only [Act.put, List.getElem_toArray, List.getElem_cons_succ, List.getElem_cons_zero, List.setIfInBounds_toArray, List.set_cons_zero, List.set_cons_succ])
      refine takeF (i := 17) (v := ?_) rfl (by kernel_rfl) (fun _ _ _ h => h) (Or.inl ⟨by kernel_rfl, ?_⟩) (by assumption) ?_; rotate_left; (focus (intro w _; go_simp; (try with_reducible rfl); done)); (try simp only [Act.put, List.getElem_toArray, List.getElem_cons_succ, List.getElem_cons_zero, List.setIfInBounds_toArray, List.set_cons_zero, List.set_cons_succ])
      refine takeH (i := 18) (v := ?_) rfl (by kernel_rfl) (fun _ _ _ h => h) (Or.inl ⟨by kernel_rfl, ?_⟩) (by assumption) ?_; rotate_left; (focus (intro w hSw; (try dsimp only at hSw); go_simp; (try with_reducible rfl); done)); (try simp only [Act.put, List.getElem_toArray, List.getElem_cons_succ, List.getElem_cons_zero, List.setIfInBounds_toArray, List.set_cons_zero, List.set_cons_succ])
      refine takeF (i := 19) (v := ?_) rfl (by kernel_rfl) (fun _ _ _ h => h) (Or.inl ⟨by kernel_rfl, ?_⟩) (by assumption) ?_; rotate_left; (focus (intro w _; go_simp; (try with_reducible rfl); done)); (try simp only [Act.put, List.getElem_toArray, List.getElem_cons_succ, List.getElem_cons_zero, List.setIfInBounds_toArray, List.set_cons_zero, List.set_cons_succ])
      refine takeF (i := 20) (v := ?_) rfl (by kernel_rfl) (fun _ _ _ h => h) (Or.inl ⟨by kernel_rfl, ?_⟩) (by assumption) ?_; rotate_left; (focus (intro w _; go_simp; (try with_reducible rfl); done)); (try simp only [Act.put, List.getElem_toArray, List.getElem_cons_succ, List.getElem_cons_zero, List.setIfInBounds_toArray, List.set_cons_zero, List.set_cons_succ])
      refine takeH (i := 21) (v := ?_) rfl (by kernel_rfl) (fun _ _ _ h => h) (Or.inl ⟨by kernel_rfl, ?_⟩) (by assumption) ?_; rotate_left; (focus (intro w hSw; (try dsimp only at hSw); go_simp; (try with_reducible rfl); done)); (try simp only [Act.put, List.getElem_toArray, List.getElem_cons_succ, List.getElem_cons_zero, List.setIfInBounds_toArray, List.set_cons_zero, List.set_cons_succ])
      refine readyS (rs := [22]) (by kernel_rfl) (by simp) ?_
      refine ReadyS.consH rfl (fun K hK => ?_) ReadyS.nil
      (try simp only [List.getElem_toArray, List.getElem_cons_succ, List.getElem_cons_zero])
      go_simp
      (with_reducible refine (HC.out _).mono ?_); rintro e W1 ⟨rfl, hb⟩
      have H1 := Lib.hid (below_up HD.out hb); clear hb
      refine hK.out _ _ (HQ.out _ H1.out) (fun hHeld => ?_)
      clear hK K
      (try simp only [Act.put, List.getElem_toArray, List.getElem_cons_succ, List.getElem_cons_zero, List.setIfInBounds_toArray, List.set_cons_zero, List.set_cons_succ])
      refine takeF (i := 23) (v := ?_) rfl (by kernel_rfl) (fun _ _ _ h => h) (Or.inl ⟨by kernel_rfl, ?_⟩) (by assumption) ?_; rotate_left; (focus (intro w _; go_simp; (try with_reducible rfl); done)); (try simp only [Act.put, List.getElem_toArray, List.getElem_cons_succ, List.getElem_cons_zero, List.setIfInBounds_toArray, List.set_cons_zero, List.set_cons_succ])
      refine doneS (by kernel_rfl) ?_ _
      by_cases hlt : ItS.Lt x y
      · have hd : decide (ItS.Lt x y) = true := decide_eq_true hlt
        have HL2 := Lib.hid (HY.out hlt)
        go_wp2
        exact ⟨⟨j + 1, k, by omega, rfl, by go_num, HL2.out, H1.out⟩, by simp [intOf]; omega⟩
      · have hd : decide (ItS.Lt x y) = false := decide_eq_false hlt
        have HL2 := Lib.hid (HN.out hlt)
        go_wp2
        all_goals exact ⟨⟨j + 1, b, by omega, rfl, by go_num, HL2.out, H1.out⟩, by simp [intOf]; omega⟩
    · have HL2 : Hid (LeastTo l i (j + 1) b) := Lib.hid (least_far HL.out (by omega))
      have dk : decide (k < l.length) = false := decide_eq_false hkl
      refine beginS (S := fun W' => (W'.cell? ⟨p, 0, none⟩ = some (.slice (some ⟨g, 0, none⟩) l.length c))) [] (by kernel_rfl) (cells1 (HH.out.up HD.out).1) (fun hHeld0 => ?_)
      generalize (World.drew wr) = W0 at *
      clear hk'
      refine takeF (i := 0) (v := ?_) rfl (by kernel_rfl) (fun _ _ _ h => h) (Or.inl ⟨by kernel_rfl, ?_⟩) (by assumption) ?_; rotate_left; (focus (intro w _; go_simp; (try with_reducible rfl); done)); (try simp only [Act.put, List.getElem_toArray, List.getElem_cons_succ, List.getElem_cons_zero, List.setIfInBounds_toArray, List.set_cons_zero, List.set_cons_succ])
      refine takeF (i := 1) (v := ?_) rfl (by kernel_rfl) (fun _ _ _ h => h) (Or.inl ⟨by kernel_rfl, ?_⟩) (by assumption) ?_; rotate_left; (focus (intro w _; go_simp; (try with_reducible rfl); done)); (try simp only [Act.put, List.getElem_toArray, List.getElem_cons_succ, List.getElem_cons_zero, List.setIfInBounds_toArray, List.set_cons_zero, List.set_cons_succ])
      refine takeF (i := 2) (v := ?_) rfl (by kernel_rfl) (fun _ _ _ h => h) (Or.inl ⟨by kernel_rfl, ?_⟩) (by assumption) ?_; rotate_left; (focus (intro w _; go_simp; (try with_reducible rfl); done)); (try simp only [Act.put, List.getElem_toArray, List.getElem_cons_succ, List.getElem_cons_zero, List.setIfInBounds_toArray, List.set_cons_zero, List.set_cons_succ])
      refine takeF (i := 3) (v := ?_) rfl (by kernel_rfl) (fun _ _ _ h => h) (Or.inl ⟨by kernel_rfl, ?_⟩) (by assumption) ?_; rotate_left; (focus (intro w _; go_simp; (try with_reducible rfl); done)); (try simp only [Act.put, List.getElem_toArray, List.getElem_cons_succ, List.getElem_cons_zero, List.setIfInBounds_toArray, List.set_cons_zero, List.set_cons_succ])
      refine takeH (i := 4) (v := ?_) rfl (by kernel_rfl) (fun _ _ _ h => h) (Or.inl ⟨by kernel_rfl, ?_⟩) (by assumption) ?_; rotate_left; (focus (intro w hSw; (try dsimp only at hSw); go_simp; (try with_reducible rfl); done)); (try simp only [Act.put, List.getElem_toArray, List.getElem_cons_succ, List.getElem_cons_zero, List.setIfInBounds_toArray, List.set_cons_zero, List.set_cons_succ])
      refine takeF (i := 5) (v := ?_) rfl (by kernel_rfl) (fun _ _ _ h => h) (Or.inl ⟨by kernel_rfl, ?_⟩) (by assumption) ?_; rotate_left; (focus (intro w _; go_simp; (try with_reducible rfl); done)); (try simp only [Act.put, List.getElem_toArray, List.getElem_cons_succ, List.getElem_cons_zero, List.setIfInBounds_toArray, List.set_cons_zero, List.set_cons_succ])
      refine takeF (i := 6) (v := ?_) rfl (by kernel_rfl) (fun _ _ _ h => h) (Or.inl ⟨by kernel_rfl, ?_⟩) (by assumption) ?_; rotate_left; (focus (intro w _; go_simp; (try with_reducible rfl); done)); (try simp only [Act.put, List.getElem_toArray, List.getElem_cons_succ, List.getElem_cons_zero, List.setIfInBounds_toArray, List.set_cons_zero, List.set_cons_succ])
      refine takeF (i := 7) (v := ?_) rfl (by kernel_rfl) (fun _ _ _ h => h) (Or.inl ⟨by kernel_rfl, ?_⟩) (by assumption) ?_; rotate_left; (focus (intro w _; go_simp; (try with_reducible rfl); done)); (try simp only [Act.put, List.getElem_toArray, List.getElem_cons_succ, List.getElem_cons_zero, List.setIfInBounds_toArray, List.set_cons_zero, List.set_cons_succ])
      refine takeF (i := 8) (v := undef) rfl (by kernel_rfl) (fun _ _ _ h => h) (Or.inr ⟨by kernel_rfl, rfl⟩) (by assumption) ?_; (try simp only [Act.put, List.getElem_toArray, List.getElem_cons_succ, List.getElem_cons_zero, List.setIfInBounds_toArray, List.set_cons_zero, List.set_cons_succ])
      refine takeF (i := 9) (v := undef) rfl (by kernel_rfl) (fun _ _ _ h => h) (Or.inr ⟨by kernel_rfl, rfl⟩) (by assumption) ?_; (try simp only [Act.put, List.getElem_toArray, List.getElem_cons_succ, List.getElem_cons_zero, List.setIfInBounds_toArray, List.set_cons_zero, List.set_cons_succ])
      refine takeF (i := 10) (v := undef) rfl (by kernel_rfl) (fun _ _ _ h => h) (Or.inr ⟨by kernel_rfl, rfl⟩) (by assumption) ?_; (try simp only [Act.put, List.getElem_toArray, List.getElem_cons_succ, List.getElem_cons_zero, List.setIfInBounds_toArray, List.set_cons_zero, List.set_cons_succ])
      refine takeF (i := 11) (v := undef) rfl (by kernel_rfl) (fun _ _ _ h => h) (Or.inr ⟨by kernel_rfl, rfl⟩) (by assumption) ?_; (try simp only [Act.put, List.getElem_toArray, List.getElem_cons_succ, List.getElem_cons_zero, List.setIfInBounds_toArray, List.set_cons_zero, List.set_cons_succ])
      refine takeF (i := 12) (v := undef) rfl (by kernel_rfl) (fun _ _ _ h => h) (Or.inr ⟨by kernel_rfl, rfl⟩) (by assumption) ?_; (try simp only [Act.put, List.getElem_toArray, List.getElem_cons_succ, List.getElem_cons_zero, List.setIfInBounds_toArray, List.set_cons_zero, List.set_cons_succ])
      refine takeF (i := 13) (v := undef) rfl (by kernel_rfl) (fun _ _ _ h => h) (Or.inr ⟨by kernel_rfl, rfl⟩) (by assumption) ?_; (try simp only [Act.put, List.getElem_toArray, List.getElem_cons_succ, List.getElem_cons_zero, List.setIfInBounds_toArray, List.set_cons_zero, List.set_cons_succ])
      refine takeF (i := 14) (v := undef) rfl (by kernel_rfl) (fun _ _ _ h => h) (Or.inr ⟨by kernel_rfl, rfl⟩) (by assumption) ?_; (try simp only [Act.put, List.getElem_toArray, List.getElem_cons_succ, List.getElem_cons_zero, List.setIfInBounds_toArray, List.set_cons_zero, List.set_cons_succ])
      refine takeF (i := 15) (v := undef) rfl (by kernel_rfl) (fun _ _ _ h => h) (Or.inr ⟨by kernel_rfl, rfl⟩) (by assumption) ?_; (try simp only [Act.put, List.getElem_toArray, List.getElem_cons_succ, List.getElem_cons_zero, List.setIfInBounds_toArray, List.set_cons_zero, List.set_cons_succ])
      refine takeF (i := 16) (v := undef) rfl (by kernel_rfl) (fun _ _ _ h => h) (Or.inr ⟨by kernel_rfl, rfl⟩) (by assumption) ?_; (try simp only [Act.put, List.getElem_toArray, List.getElem_cons_succ, List.getElem_cons_zero, List.setIfInBounds_toArray, List.set_cons_zero, List.set_cons_succ])
      refine takeF (i := 17) (v := undef) rfl (by kernel_rfl) (fun _ _ _ h => h) (Or.inr ⟨by kernel_rfl, rfl⟩) (by assumption) ?_; (try simp only [Act.put, List.getElem_toArray, List.getElem_cons_succ, List.getElem_cons_zero, List.setIfInBounds_toArray, List.set_cons_zero, List.set_cons_succ])
      refine takeF (i := 18) (v := undef) rfl (by kernel_rfl) (fun _ _ _ h => h) (Or.inr ⟨by kernel_rfl, rfl⟩) (by assumption) ?_; (try simp only [Act.put, List.getElem_toArray, List.getElem_cons_succ, List.getElem_cons_zero, List.setIfInBounds_toArray, List.set_cons_zero, List.set_cons_succ])
      refine takeF (i := 19) (v := undef) rfl (by kernel_rfl) (fun _ _ _ h => h) (Or.inr ⟨by kernel_rfl, rfl⟩) (by assumption) ?_; (try simp only [Act.put, List.getElem_toArray, List.getElem_cons_succ, List.getElem_cons_zero, List.setIfInBounds_toArray, List.set_cons_zero, List.set_cons_succ])
      refine takeF (i := 20) (v := undef) rfl (by kernel_rfl) (fun _ _ _ h => h) (Or.inr ⟨by kernel_rfl, rfl⟩) (by assumption) ?_; (try simp only [Act.put, List.getElem_toArray, List.getElem_cons_succ, List.getElem_cons_zero, List.setIfInBounds_toArray, List.set_cons_zero, List.set_cons_succ])
      refine takeF (i := 21) (v := undef) rfl (by kernel_rfl) (fun _ _ _ h => h) (Or.inr ⟨by kernel_rfl, rfl⟩) (by assumption) ?_; (try simp only [Act.put, List.getElem_toArray, List.getElem_cons_succ, List.getElem_cons_zero, List.setIfInBounds_toArray, List.set_cons_zero, List.set_cons_succ])
      refine takeF (i := 22) (v := undef) rfl (by kernel_rfl) (fun _ _ _ h => h) (Or.inr ⟨by kernel_rfl, rfl⟩) (by assumption) ?_; (try simp only [Act.put, List.getElem_toArray, List.getElem_cons_succ, List.getElem_cons_zero, List.setIfInBounds_toArray, List.set_cons_zero, List.set_cons_succ])
      refine takeF (i := 23) (v := ?_) rfl (by kernel_rfl) (fun _ _ _ h => h) (Or.inl ⟨by kernel_rfl, ?_⟩) (by assumption) ?_; rotate_left; (focus (intro w _; go_simp; (try with_reducible rfl); done)); (try simp only [Act.put, List.getElem_toArray, List.getElem_cons_succ, List.getElem_cons_zero, List.setIfInBounds_toArray, List.set_cons_zero, List.set_cons_succ])
      refine doneS (by kernel_rfl) ?_ _
      go_wp2
      exact ⟨⟨j + 1, b, by omega, rfl, by go_num, HL2.out, HD.out⟩, by simp [intOf]; omega⟩
  · obtain rfl : j = 2 := by omega
    go_wp2
    go_ret
    exact ⟨b, rfl, least_end HL.out, HB.out⟩
end Go.Proofs.Ytkjapmafipnmpaa.Hp
