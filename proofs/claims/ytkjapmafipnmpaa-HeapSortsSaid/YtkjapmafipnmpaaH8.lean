/- The walk over (*heap.Heap).Pop. -/
import Derived.Test.YtkjapmafipnmpaaH7
namespace Go.Proofs.Ytkjapmafipnmpaa.Hp
open Go.RowKit Lt Rg HpL
set_option linter.unusedVariables false
set_option linter.unusedSimpArgs false
theorem own_take {W : World} {base n c size : Nat} {e : TypeId} {A : Option Addr} {xs : List Value} (h : W.ownsRow base e size (.slice A n c) n xs) (k : Nat) (hk : k ≤ n) : W.ownsRow base e size (.slice A k c) k (xs.take (k * size)) := by
  obtain ⟨hl, h⟩ := h
  refine ⟨by rw [List.length_take, hl]; exact Nat.min_eq_left (Nat.mul_le_mul_right _ hk), ?_⟩
  rcases h with ⟨hv, hn⟩ | ⟨g, cap, cur, hv, hb, hg, hnc, hcm, hcs, ht⟩
  · cases hv
    obtain rfl : k = 0 := by omega
    exact .inl ⟨rfl, rfl⟩
  · cases hv
    exact .inr ⟨g, c, cur, rfl, hb, hg, Nat.le_trans hk hnc, hcm, hcs, by rw [← ht, List.take_take, Nat.min_eq_left (Nat.mul_le_mul_right _ hk)]⟩
theorem flat_take : ∀ (l : List ItS) (k : Nat), (l.flatMap ItS.cells).take (k * 4) = (l.take k).flatMap ItS.cells
  | [], k => by simp
  | a :: l, 0 => by simp
  | a :: l, k + 1 => by
    rw [List.flatMap_cons, List.take_succ_cons, List.flatMap_cons, ← flat_take l k, List.take_append, List.take_of_length_le (by rw [ItS.cells_len]; omega), ItS.cells_len]
    congr 2
    omega
theorem HAt.take {W : World} {base p n c : Nat} {A : Option Addr} {l : List ItS} (h : HAt W base p (.slice A n c) l) (k : Nat) (hk : k ≤ l.length) (hp : W.heap[p]? = some (.cells #[.slice A n c] 27 (0, 0))) : HAt (W.setCell ⟨p, 0, none⟩ (.slice A k c)) base p (.slice A k c) (l.take k) := by
  obtain ⟨_, _, e, _, _, _⟩ := own_rd h.2
  cases e
  have ht := own_take h.2 k hk
  rw [flat_take] at ht
  have hl : (l.take k).length = k := by rw [List.length_take]; omega
  refine HAt.store hp (by rw [hl]; exact ht) (fun e => h.apart ?_)
  cases A with
  | none => exact e
  | some a => exact e
theorem blk_set4 {W : World} {g : Nat} {t : TypeId} {f : Nat × Nat} {a0 a1 a2 a3 : Value} (h : W.heap[g]? = some (.cells #[a0, a1, a2, a3] t f)) (b0 b1 b2 b3 : Value) :
    ((((W.setCell ⟨g, 0, none⟩ b0).setCell ⟨g, 1, none⟩ b1).setCell ⟨g, 2, none⟩ b2).setCell ⟨g, 3, none⟩ b3).heap[g]? = some (.cells #[b0, b1, b2, b3] t f) := by
  have h0 := blk_set h 0 b0
  have h1 := blk_set h0 1 b1
  have h2 := blk_set h1 2 b2
  have h3 := blk_set h2 3 b3
  simpa using h3
theorem fr_set4at (W : World) (g : Nat) (b0 b1 b2 b3 : Value) : Fr (fun k => k = g) W ((((W.setCell ⟨g, 0, none⟩ b0).setCell ⟨g, 1, none⟩ b1).setCell ⟨g, 2, none⟩ b2).setCell ⟨g, 3, none⟩ b3) := by
  have s1 : ∀ (W : World) (j : Nat) (u : Value), Fr (fun k => k = g) W (W.setCell ⟨g, j, none⟩ u) := fun W j u =>
    ⟨rfl, rfl, rfl, by simp, fun k _ hk => heap_setCell_other W ⟨g, j, none⟩ k u (fun e => hk (by simp [e]))⟩
  exact (((s1 W _ _).trans (s1 _ _ _) (fun k _ h => h)).trans (s1 _ _ _) (fun k _ h => h)).trans (s1 _ _ _) (fun k _ h => h)
theorem info_it4 : (Try.prog.info? 33).map (·.size) = some 4 := by kernel_rfl
set_option maxHeartbeats 4000000 in
set_option maxRecDepth 100000 in
/-- Nobody's heap. -/
theorem pop_none (W : World) : Calls Try.prog 18 #[.pointer none] W fun e w' => e = .returned (.tuple #[.agg #[.int .u64 0, .int .u64 0, .int .i64 0, .int .i64 0], .bool false]) ∧ Below W.heap.size W w' := by
  have q1 := alloc_at (w := W) (.cells #[.int .u64 0, .int .u64 0, .int .i64 0, .int .i64 0] 33) rfl
  have qb := below_alloc1 W (.cells #[.int .u64 0, .int .u64 0, .int .i64 0, .int .i64 0] 33)
  have HG := Lib.hid (And.intro q1 qb)
  have qc := cells4 q1
  have qf := free_block q1
  clear q1 qb
  go_enter Try.func18, Try.ntmps18
  go_wp2_with fail
  generalize (World.alloc W _) = W1 at *
  (with_reducible refine (len_nil _).mono ?_); rintro e w1 ⟨rfl, rfl⟩
  go_wp2_with fail
  have hs4 := Lib.hid (And.intro (blk_set4 HG.out.1 (.int .u64 0) (.int .u64 0) (.int .i64 0) (.int .i64 0)) (fr_set4at W1 W.heap.size (.int .u64 0) (.int .u64 0) (.int .i64 0) (.int .i64 0)))
  refine bodyPost_ret (v := .tuple #[.agg #[.int .u64 0, .int .u64 0, .int .i64 0, .int .i64 0], .bool false]) (results_cell_tmp (p := 2) (t := 3) rfl _ _ W.heap.size _ _ (0, 0) _ rfl hs4.out.1 Try.underlying33 rfl info_it4 _ rfl) rfl ⟨rfl, ?_⟩
  exact ((Fr.of_below (S := fun k => W.heap.size ≤ k) HG.out.2).trans hs4.out.2 (fun k hk h => by subst h; exact Nat.le_refl _)).toBelow (fun _ h => h) (Nat.le_refl _)
set_option maxHeartbeats 4000000 in
set_option maxRecDepth 100000 in
theorem pop_empty {W : World} {base p : Nat} {v : Value} (h : HAt W base p v []) :
    Calls Try.prog 18 #[.pointer (some ⟨p, 0, none⟩)] W fun e w' => e = .returned (.tuple #[.agg #[.int .u64 0, .int .u64 0, .int .i64 0, .int .i64 0], .bool false]) ∧ Below W.heap.size W w' := by
  have q1 := alloc_at (w := W) (.cells #[.int .u64 0, .int .u64 0, .int .i64 0, .int .i64 0] 33) rfl
  have qb := below_alloc1 W (.cells #[.int .u64 0, .int .u64 0, .int .i64 0, .int .i64 0] 33)
  have HH := Lib.hid (h.up qb)
  clear h
  have HG := Lib.hid (And.intro q1 qb)
  have qc := cells4 q1
  have qf := free_block q1
  clear q1 qb
  go_enter Try.func18, Try.ntmps18
  go_wp2_with fail
  generalize (World.alloc W _) = W1 at *
  (with_reducible refine (len_ok HH.out).mono ?_); rintro e w1 ⟨rfl, rfl⟩
  go_wp2_with fail
  have hs4 := Lib.hid (And.intro (blk_set4 HG.out.1 (.int .u64 0) (.int .u64 0) (.int .i64 0) (.int .i64 0)) (fr_set4at W1 W.heap.size (.int .u64 0) (.int .u64 0) (.int .i64 0) (.int .i64 0)))
  refine bodyPost_ret (v := .tuple #[.agg #[.int .u64 0, .int .u64 0, .int .i64 0, .int .i64 0], .bool false]) (results_cell_tmp (p := 2) (t := 3) rfl _ _ W.heap.size _ _ (0, 0) _ rfl hs4.out.1 Try.underlying33 rfl info_it4 _ rfl) rfl ⟨rfl, ?_⟩
  exact ((Fr.of_below (S := fun k => W.heap.size ≤ k) HG.out.2).trans hs4.out.2 (fun k hk h => by subst h; exact Nat.le_refl _)).toBelow (fun _ h => h) (Nat.le_refl _)
set_option maxHeartbeats 4000000 in
set_option maxRecDepth 100000 in
theorem pop_ok {W : World} {base p : Nat} {v : Value} {l : List ItS} (h : HAt W base p v l) (hh : Hp ItS.Lt l) (hlen : l.length ≤ 1000) (h0 : 0 < l.length) :
    Calls Try.prog 18 #[.pointer (some ⟨p, 0, none⟩)] W fun e w' => e = .returned (.tuple #[iv4 l[0], .bool true]) ∧ ∃ v' l', HAt w' base p v' l' ∧ Hp ItS.Lt l' ∧ l.Perm (l[0] :: l') ∧ HpTo p v W w' v' := by
  obtain ⟨A, c, hv, hlc, _, _, _⟩ := own_rd h.2
  subst hv
  obtain ⟨g, hg, _⟩ := h.view (Below.refl _ _) h0
  subst hg
  have hgl := Lib.hid (own_lt h.2 g rfl)
  have hpl := Lib.hid h.lt
  have q1 := alloc_at (w := W) (.cells #[.int .u64 0, .int .u64 0, .int .i64 0, .int .i64 0] 33) rfl
  have qb := below_alloc1 W (.cells #[.int .u64 0, .int .u64 0, .int .i64 0, .int .i64 0] 33)
  have HH0 := Lib.hid h
  have HH := Lib.hid (h.up qb)
  have hDn := Lib.hid (dn_start hh h0)
  have hPm' := dn_perm (l := l) h0
  obtain ⟨x, hx⟩ : ∃ x, l[0] = x := ⟨_, rfl⟩
  rw [hx] at hPm' ⊢
  have hPm := Lib.hid hPm'
  have HX := Lib.hid hx
  clear h hh hPm' hx
  have HG := Lib.hid (And.intro q1 qb)
  have qc := cells4 q1
  have qf := free_block q1
  clear q1 qb
  have dn0 : ((l.length : Int) == 0) = false := by rw [beq_eq_false_iff_ne]; omega
  go_enter Try.func18, Try.ntmps18
  go_wp2_with fail
  generalize (World.alloc W _) = W1 at *
  (with_reducible refine (len_ok HH.out).mono ?_); rintro e w1 ⟨rfl, rfl⟩
  have bl0 : (0 : Int) < l.length := by omega
  have bl1 : (1 : Int) ≤ l.length := by omega
  have bl2 : (l.length : Int) ≤ 1000 := by omega
  go_upto_region 3 with (fail)
  clear qc qf
  have hD1 := Lib.hid (below_up HG.out.2 (below_drew1 (w := W1)))
  have HQ : Hid (∀ W' : World, Below W.heap.size W W' → (W'.cell? ⟨p, 0, none⟩ = some (.slice (some ⟨g, 0, none⟩) l.length c)) ∧ (W'.cell? ⟨g, 0, none⟩ = some (.int .u64 (x.hi : Nat)) ∧ W'.cell? ⟨g, 1, none⟩ = some (.int .u64 (x.lo : Nat)) ∧ W'.cell? ⟨g, 2, none⟩ = some (.int .i64 x.od) ∧ W'.cell? ⟨g, 3, none⟩ = some (.int .i64 x.id)) ∧ Below W.heap.size W W') := Lib.hid (fun W' hb => by
    obtain ⟨g1, e1, f1⟩ := HH0.out.view hb h0
    cases e1
    simp only [Nat.zero_mul, Nat.zero_add] at f1
    rw [HX.out] at f1
    exact ⟨cells1 (HH0.out.up hb).1, f1, hb⟩)
  have HSw : Hid (∀ W', Below W.heap.size W W' → Calls Try.prog 59 #[.pointer (some ⟨p, 0, none⟩), .int .i64 0, .int .i64 (l.length - 1 : Nat)] W' fun e w' => e = .returned (.tuple #[]) ∧ HAt w' base p (.slice (some ⟨g, 0, none⟩) l.length c) (sw l 0 (l.length - 1) h0 (by omega)) ∧ Fr (fun k => (Value.slice (some ⟨g, 0, none⟩) l.length c).ownBlock = some k) W' w') := Lib.hid (fun W' hb => swap_ok (HH0.out.up hb) 0 (l.length - 1) h0 (by omega))
  have hswl := Lib.hid (sw_len l 0 (l.length - 1) h0 (by omega))
  generalize sw l 0 (l.length - 1) h0 (by omega) = ls at *
  obtain ⟨n, hn⟩ : ∃ n, l.length - 1 = n := ⟨_, rfl⟩
  rw [hn] at hDn hPm HSw
  have hwr : IntKind.i64.wrap ((l.length : Int) - 1) = (n : Int) := by rw [IntWalk.i64_in _ (by omega)]; omega
  have hnl : Hid (l.length = n + 1) := Lib.hid (by omega)
  clear hn
  refine beginS (S := fun W' => (W'.cell? ⟨p, 0, none⟩ = some (.slice (some ⟨g, 0, none⟩) l.length c)) ∧ (W'.cell? ⟨g, 0, none⟩ = some (.int .u64 (x.hi : Nat)) ∧ W'.cell? ⟨g, 1, none⟩ = some (.int .u64 (x.lo : Nat)) ∧ W'.cell? ⟨g, 2, none⟩ = some (.int .i64 x.od) ∧ W'.cell? ⟨g, 3, none⟩ = some (.int .i64 x.id)) ∧ Below W.heap.size W W') [] (by kernel_rfl) (HQ.out _ hD1.out) (fun hHeld0 => ?_)
  have hZ := Lib.hid (block_up HG.out.1 (below_drew1 (w := W1)))
  clear HH HG
  generalize (World.drew W1) = W2 at *
  refine takeF (i := 0) (v := ?_) rfl (by kernel_rfl) (fun _ _ _ h => h) (Or.inl ⟨by kernel_rfl, ?_⟩) (by assumption) ?_; rotate_left; (focus (intro w _; go_simp; (try with_reducible rfl); done)); (try simp only [Act.put, List.getElem_toArray, List.getElem_cons_succ, List.getElem_cons_zero, List.setIfInBounds_toArray, List.set_cons_zero, List.set_cons_succ])
  refine takeF (i := 1) (v := ?_) rfl (by kernel_rfl) (fun _ _ _ h => h) (Or.inl ⟨by kernel_rfl, ?_⟩) (by assumption) ?_; rotate_left; (focus (intro w _; go_simp; (try with_reducible rfl); done)); (try simp only [Act.put, List.getElem_toArray, List.getElem_cons_succ, List.getElem_cons_zero, List.setIfInBounds_toArray, List.set_cons_zero, List.set_cons_succ])
  refine takeF (i := 2) (v := ?_) rfl (by kernel_rfl) (fun _ _ _ h => h) (Or.inl ⟨by kernel_rfl, ?_⟩) (by assumption) ?_; rotate_left; (focus (intro w _; go_simp; (try with_reducible rfl); done)); (try simp only [Act.put, List.getElem_toArray, List.getElem_cons_succ, List.getElem_cons_zero, List.setIfInBounds_toArray, List.set_cons_zero, List.set_cons_succ])
  refine takeH (i := 3) (v := ?_) rfl (by kernel_rfl) (fun _ _ _ h => h) (Or.inl ⟨by kernel_rfl, ?_⟩) (by assumption) ?_; rotate_left; (focus (intro w hSw; (try dsimp only at hSw); go_simp; (try with_reducible rfl); done)); (try simp only [Act.put, List.getElem_toArray, List.getElem_cons_succ, List.getElem_cons_zero, List.setIfInBounds_toArray, List.set_cons_zero, List.set_cons_succ])
  refine takeF (i := 4) (v := ?_) rfl (by kernel_rfl) (fun _ _ _ h => h) (Or.inl ⟨by kernel_rfl, ?_⟩) (by assumption) ?_; rotate_left; (focus (intro w _; go_simp; (try with_reducible rfl); done)); (try simp only [Act.put, List.getElem_toArray, List.getElem_cons_succ, List.getElem_cons_zero, List.setIfInBounds_toArray, List.set_cons_zero, List.set_cons_succ])
  refine takeH (i := 5) (v := ?_) rfl (by kernel_rfl) (fun _ _ _ h => h) (Or.inl ⟨by kernel_rfl, ?_⟩) (by assumption) ?_; rotate_left; (focus (intro w hSw; (try dsimp only at hSw); go_simp; (try with_reducible rfl); done)); (try simp only [Act.put, List.getElem_toArray, List.getElem_cons_succ, List.getElem_cons_zero, List.setIfInBounds_toArray, List.set_cons_zero, List.set_cons_succ])
  refine takeF (i := 6) (v := ?_) rfl (by kernel_rfl) (fun _ _ _ h => h) (Or.inl ⟨by kernel_rfl, ?_⟩) (by assumption) ?_; rotate_left; (focus (intro w _; go_simp; (try with_reducible rfl); done)); (try simp only [Act.put, List.getElem_toArray, List.getElem_cons_succ, List.getElem_cons_zero, List.setIfInBounds_toArray, List.set_cons_zero, List.set_cons_succ])
  refine takeF (i := 7) (v := ?_) rfl (by kernel_rfl) (fun _ _ _ h => h) (Or.inl ⟨by kernel_rfl, ?_⟩) (by assumption) ?_; rotate_left; (focus (intro w _; go_simp; (try with_reducible rfl); done)); (try simp only [Act.put, List.getElem_toArray, List.getElem_cons_succ, List.getElem_cons_zero, List.setIfInBounds_toArray, List.set_cons_zero, List.set_cons_succ])
  refine takeF (i := 8) (v := ?_) rfl (by kernel_rfl) (fun _ _ _ h => h) (Or.inl ⟨by kernel_rfl, ?_⟩) (by assumption) ?_; rotate_left; (focus (intro w _; go_simp; (try with_reducible rfl); done)); (try simp only [Act.put, List.getElem_toArray, List.getElem_cons_succ, List.getElem_cons_zero, List.setIfInBounds_toArray, List.set_cons_zero, List.set_cons_succ])
  refine takeH (i := 9) (v := ?_) rfl (by kernel_rfl) (fun _ _ _ h => h) (Or.inl ⟨by kernel_rfl, ?_⟩) (by assumption) ?_; rotate_left; (focus (intro w hSw; (try dsimp only at hSw); go_simp; (try with_reducible rfl); done)); (try simp only [Act.put, List.getElem_toArray, List.getElem_cons_succ, List.getElem_cons_zero, List.setIfInBounds_toArray, List.set_cons_zero, List.set_cons_succ])
  refine takeF (i := 10) (v := ?_) rfl (by kernel_rfl) (fun _ _ _ h => h) (Or.inl ⟨by kernel_rfl, ?_⟩) (by assumption) ?_; rotate_left; (focus (intro w _; go_simp; (try with_reducible rfl); done)); (try simp only [Act.put, List.getElem_toArray, List.getElem_cons_succ, List.getElem_cons_zero, List.setIfInBounds_toArray, List.set_cons_zero, List.set_cons_succ])
  refine takeF (i := 11) (v := ?_) rfl (by kernel_rfl) (fun _ _ _ h => h) (Or.inl ⟨by kernel_rfl, ?_⟩) (by assumption) ?_; rotate_left; (focus (intro w _; go_simp; (try with_reducible rfl); done)); (try simp only [Act.put, List.getElem_toArray, List.getElem_cons_succ, List.getElem_cons_zero, List.setIfInBounds_toArray, List.set_cons_zero, List.set_cons_succ])
  clear hHeld0
  refine readyS (rs := [12]) (by kernel_rfl) (by simp) ?_
  refine ReadyS.consH rfl (fun K hK => ?_) ReadyS.nil
  (try simp only [List.getElem_toArray, List.getElem_cons_succ, List.getElem_cons_zero])
  go_simp
  have q1 := alloc_at (w := W2) (.cells #[.int .u64 0, .int .u64 0, .int .i64 0, .int .i64 0] 33) rfl
  have hZ3 := Lib.hid (alloc_old hZ.out (.cells #[.int .u64 0, .int .u64 0, .int .i64 0, .int .i64 0] 33))
  have hD3 := Lib.hid (below_alloc hD1.out (.cells #[.int .u64 0, .int .u64 0, .int .i64 0, .int .i64 0] 33))
  have hX3 := Lib.hid q1
  have qc := cells4 q1
  have qf := free_block q1
  clear q1
  refine hK.out _ _ (HQ.out _ hD3.out) (fun hHeld => ?_)
  clear hK K
  (try simp only [Act.put, List.getElem_toArray, List.getElem_cons_succ, List.getElem_cons_zero, List.setIfInBounds_toArray, List.set_cons_zero, List.set_cons_succ])
  generalize (World.alloc W2 _) = W3 at *
  have hne4 : Hid (W.heap.size ≠ W2.heap.size) := Lib.hid (fun e => by
    have := (Array.getElem?_eq_some_iff.1 hZ.out).1
    omega)
  have hge4 := Lib.hid hD1.out.size
  generalize W2.heap.size = g4 at *
  generalize hg2 : W.heap.size = g2 at *
  refine readyS (rs := [13]) (by kernel_rfl) (by simp) ?_
  refine ReadyS.consH rfl (fun K hK => ?_) ReadyS.nil
  (try simp only [List.getElem_toArray, List.getElem_cons_succ, List.getElem_cons_zero])
  go_simp
  have hs4 := Lib.hid (And.intro (blk_set4 hX3.out (.int .u64 (x.hi : Nat)) (.int .u64 (x.lo : Nat)) (.int .i64 x.od) (.int .i64 x.id)) (fr_set4at W3 g4 (.int .u64 (x.hi : Nat)) (.int .u64 (x.lo : Nat)) (.int .i64 x.od) (.int .i64 x.id)))
  generalize (((W3.setCell _ _).setCell _ _).setCell _ _).setCell _ _ = W4 at *
  have hZ4 := Lib.hid (blk_fr hZ3.out hs4.out.2 hne4.out)
  have hD4 : Hid (Below W.heap.size W W4) := Lib.hid (((Fr.of_below (S := fun k => W.heap.size ≤ k) (hg2 ▸ hD3.out)).trans hs4.out.2 (fun k hk h => by subst h; rw [hg2]; exact hge4.out)).toBelow (fun _ h => h) (Nat.le_refl _))
  rw [hg2] at hD4
  have hX4 := Lib.hid hs4.out.1
  clear qc qf hX3 hZ3 hs4 hD3 hHeld
  refine hK.out _ _ (HQ.out _ hD4.out) (fun hHeld => ?_)
  clear hK K
  (try simp only [Act.put, List.getElem_toArray, List.getElem_cons_succ, List.getElem_cons_zero, List.setIfInBounds_toArray, List.set_cons_zero, List.set_cons_succ])
  refine takeF (i := 14) (v := ?_) rfl (by kernel_rfl) (fun _ _ _ h => h) (Or.inl ⟨by kernel_rfl, ?_⟩) (by assumption) ?_; rotate_left; (focus (intro w _; go_simp; (try with_reducible rfl); done)); (try simp only [Act.put, List.getElem_toArray, List.getElem_cons_succ, List.getElem_cons_zero, List.setIfInBounds_toArray, List.set_cons_zero, List.set_cons_succ])
  refine doneS (by kernel_rfl) ?_ _
  clear hwr
  go_wp2_with fail
  (with_reducible refine (HSw.out _ hD4.out).mono ?_); rintro e W5 ⟨rfl, hA5, hF5⟩
  have hne2g : Hid (g2 ≠ g) := Lib.hid (fun e => by have := hgl.out; omega)
  have hne4g : Hid (g4 ≠ g) := Lib.hid (fun e => by have := hgl.out; have := hge4.out; omega)
  have hne2p : Hid (g2 ≠ p) := Lib.hid (fun e => by have := hpl.out; omega)
  have hne4p : Hid (g4 ≠ p) := Lib.hid (fun e => by have := hpl.out; have := hge4.out; omega)
  have hZ5 := Lib.hid (blk_fr hZ4.out hF5 (fun e => hne2g.out (by cases e; rfl)))
  have hX5 := Lib.hid (blk_fr hX4.out hF5 (fun e => hne4g.out (by cases e; rfl)))
  have hT5 := Lib.hid ((HpTo.below (v := .slice (some ⟨g, 0, none⟩) l.length c) (p := p) (hg2 ▸ hD4.out)).trans (HpTo.row hF5))
  have hA := Lib.hid hA5
  have q0 := cells1 hA5.1
  have qf := free_block hA5.1 0
  clear hA5 hF5
  have hnl' : Hid (n ≤ ls.length) := Lib.hid (by have := hnl.out; have := hswl.out; omega)
  have bn : (n : Int) ≤ 1000 := by have := hnl.out; omega
  have bnc : (n : Int) ≤ c := by have := hnl.out; omega
  go_wp2_with fail
  have hA6 := Lib.hid (hA.out.take n hnl'.out hA.out.1)
  have hF6 : Hid (Fr (fun k => k = p) W5 (W5.setCell ⟨p, 0, none⟩ (.slice (some ⟨g, 0, none⟩) n c))) := Lib.hid (Fr.set (S := fun k => k = p) (Fr.refl _ _) (p := ⟨p, 0, none⟩) (fun _ => rfl) _)
  have hT6 : Hid (HpTo p (.slice (some ⟨g, 0, none⟩) l.length c) W (W5.setCell ⟨p, 0, none⟩ (.slice (some ⟨g, 0, none⟩) n c)) (.slice (some ⟨g, 0, none⟩) n c)) := Lib.hid (hT5.out.trans ⟨hF6.out.mono (fun _ _ h => .inl h), fun k hk => .inl hk⟩)
  have hZ6 := Lib.hid (blk_fr hZ5.out hF6.out hne2p.out)
  have hX6 := Lib.hid (blk_fr hX5.out hF6.out hne4p.out)
  clear q0 qf hA hT5 hF6 hZ5 hX5
  generalize (W5.setCell _ _) = W6 at *
  have hll : Hid ((ls.take n).length = n) := Lib.hid (by rw [List.length_take]; have := hnl'.out; omega)
  generalize ls.take n = l1 at *
  have hMono : Hid (∀ {W'}, Fr (fun k => k = g) W6 W' → HpTo p (.slice (some ⟨g, 0, none⟩) l.length c) W W' (.slice (some ⟨g, 0, none⟩) n c) ∧ W'.heap[g2]? = some (.cells #[.int .u64 0, .int .u64 0, .int .i64 0, .int .i64 0] 33 (0, 0)) ∧ W'.heap[g4]? = some (.cells #[.int .u64 (x.hi : Nat), .int .u64 (x.lo : Nat), .int .i64 x.od, .int .i64 x.id] 33 (0, 0))) := Lib.hid (fun hf =>
    ⟨hT6.out.trans (HpTo.row (hf.mono (fun _ _ e => by subst e; rfl))), blk_fr hZ6.out hf hne2g.out, blk_fr hX6.out hf hne4g.out⟩)
  have hEnd : Hid (∀ (w : World), w.heap[g2]? = some (.cells #[.int .u64 0, .int .u64 0, .int .i64 0, .int .i64 0] 33 (0, 0)) → HpTo p (.slice (some ⟨g, 0, none⟩) l.length c) W w (.slice (some ⟨g, 0, none⟩) n c) → ∀ l', HAt w base p (.slice (some ⟨g, 0, none⟩) n c) l' → Hp ItS.Lt l' → l1.Perm l' →
      (((((w.setCell ⟨g2, 0, none⟩ (.int .u64 (x.hi : Nat))).setCell ⟨g2, 1, none⟩ (.int .u64 (x.lo : Nat))).setCell ⟨g2, 2, none⟩ (.int .i64 x.od)).setCell ⟨g2, 3, none⟩ (.int .i64 x.id)).heap[g2]? = some (.cells #[.int .u64 (x.hi : Nat), .int .u64 (x.lo : Nat), .int .i64 x.od, .int .i64 x.id] 33 (0, 0))) ∧
      ∃ v' l', HAt ((((w.setCell ⟨g2, 0, none⟩ (.int .u64 (x.hi : Nat))).setCell ⟨g2, 1, none⟩ (.int .u64 (x.lo : Nat))).setCell ⟨g2, 2, none⟩ (.int .i64 x.od)).setCell ⟨g2, 3, none⟩ (.int .i64 x.id)) base p v' l' ∧ Hp ItS.Lt l' ∧ l.Perm (x :: l') ∧ HpTo p (.slice (some ⟨g, 0, none⟩) l.length c) W ((((w.setCell ⟨g2, 0, none⟩ (.int .u64 (x.hi : Nat))).setCell ⟨g2, 1, none⟩ (.int .u64 (x.lo : Nat))).setCell ⟨g2, 2, none⟩ (.int .i64 x.od)).setCell ⟨g2, 3, none⟩ (.int .i64 x.id)) v') := Lib.hid (fun w hz ht l' ha hl' hp' => by
    have hf := fr_set4at w g2 (.int .u64 (x.hi : Nat)) (.int .u64 (x.lo : Nat)) (.int .i64 x.od) (.int .i64 x.id)
    refine ⟨blk_set4 hz _ _ _ _, _, l', ⟨blk_fr ha.1 hf (Ne.symm hne2p.out), own_fr ha.2 hf (fun k hk e => hne2g.out (by cases hk; exact e.symm))⟩, hl', hPm.out.trans (hp'.cons x), ht.1.trans hf (fun k hk e => absurd hk (by subst e; omega)), ht.2⟩)
  clear hX6 hZ6 hT6
  go_wp2_with fail
  go_loopw [6] (fun vi W' => ∃ (i : Nat) (l' : List ItS), vi = .int .i64 i ∧ l'.length = n ∧ HAt W' base p (.slice (some ⟨g, 0, none⟩) n c) l' ∧ DnI ItS.Lt l' i ∧ l1.Perm l' ∧ Fr (fun k => k = g) W6 W') (fun vi _ => n - (intOf vi).toNat)
  case atStart => exact ⟨0, l1, rfl, hll.out, hA6.out, hDn.out, List.Perm.refl _, Fr.refl _ _⟩
  case round =>
  obtain ⟨i, l', rfl, hl', hA', hD', hP', hF'⟩ := hrel
  have HA := Lib.hid hA'; clear hA'
  have HDn := Lib.hid hD'; clear hD'
  have HP := Lib.hid hP'; clear hP'
  have HF := Lib.hid hF'; clear hF'
  have HL := Lib.hid hl'; clear hl'
  by_cases hin : i < n
  · have di : decide (i < n) = true := decide_eq_true hin
    go_wp2_with fail
    (with_reducible refine (least_ok HA.out i (by have := HL.out; omega) (by have := HL.out; omega)).mono ?_); rintro e w1 ⟨k, rfl, hLe, hb⟩
    have HB := Lib.hid hb; clear hb
    have HLe := Lib.hid hLe; clear hLe
    have HA1 := Lib.hid (HA.out.up HB.out)
    have HF1 := Lib.hid (HF.out.below HB.out)
    by_cases hki : k = i
    · subst hki
      have hq := hMono.out HF1.out
      have hE := Lib.hid (hEnd.out _ hq.2.1 hq.1 l' HA1.out (dn_end HDn.out HLe.out) HP.out)
      have qx := cells4 hq.2.2
      have qz := cells4 hq.2.1
      have qf := free_block hq.2.1
      clear hq
      go_wp2
      refine bodyPost_ret (v := .tuple #[iv4 x, .bool true]) (results_cell_tmp (p := 2) (t := 3) rfl _ _ g2 _ _ (0, 0) _ rfl hE.out.1 Try.underlying33 rfl info_it4 _ rfl) rfl ⟨rfl, hE.out.2⟩
    · have hkl : k < l'.length := HLe.out.2.1
      have hil : i < l'.length := HLe.out.1
      have hik : i < k := by
        obtain ⟨_, _, h3, _⟩ := HLe.out
        omega
      have e1 : ((k : Int) == (i : Int)) = false := by rw [beq_eq_false_iff_ne]; omega
      have e2 : (k == i) = false := by rw [beq_eq_false_iff_ne]; omega
      have HD2 := Lib.hid (dn_step HDn.out HLe.out hki hil hkl)
      have HP2 := Lib.hid (HP.out.trans (sw_perm l' i k hil hkl).symm)
      have HSw2 := Lib.hid (swap_ok HA1.out i k hil hkl)
      clear HSw
      go_wp2_with fail
      (with_reducible refine HSw2.out.mono ?_); rintro e w2 ⟨rfl, hA2, hF2⟩
      have HA2 := Lib.hid hA2; clear hA2
      have HF2 := Lib.hid (HF1.out.trans hF2 (fun k _ h => by cases h; rfl)); clear hF2
      go_wp2
      exact ⟨⟨k, sw l' i k hil hkl, rfl, by rw [sw_len]; exact HL.out, HA2.out, HD2.out, HP2.out, HF2.out⟩, by have := HL.out; simp [intOf]; omega⟩
  · have di : decide (i < n) = false := decide_eq_false hin
    have hq := hMono.out HF.out
    have hE := Lib.hid (hEnd.out _ hq.2.1 hq.1 l' HA.out (dn_out HDn.out (by have := HL.out; omega)) HP.out)
    have qx := cells4 hq.2.2
    have qz := cells4 hq.2.1
    have qf := free_block hq.2.1
    clear hq
    go_wp2
    refine bodyPost_ret (v := .tuple #[iv4 x, .bool true]) (results_cell_tmp (p := 2) (t := 3) rfl _ _ g2 _ _ (0, 0) _ rfl hE.out.1 Try.underlying33 rfl info_it4 _ rfl) rfl ⟨rfl, hE.out.2⟩
end Go.Proofs.Ytkjapmafipnmpaa.Hp
