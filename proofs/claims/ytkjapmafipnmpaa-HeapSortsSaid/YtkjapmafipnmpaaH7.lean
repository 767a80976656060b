/- The walk over (*heap.Heap).Push. -/
import Derived.Test.YtkjapmafipnmpaaH5
import Derived.Test.YtkjapmafipnmpaaH6
namespace Go.Proofs.Ytkjapmafipnmpaa.Hp
open Go.RowKit Lt Rg HpL
set_option linter.unusedVariables false
set_option linter.unusedSimpArgs false
theorem info_it : (Try.prog.info? 33).map (fun i => (i.zero, i.size, i.bytes)) = some (some (.agg #[.int .u64 0, .int .u64 0, .int .i64 0, .int .i64 0]), 4, 32) := by kernel_rfl
theorem ItS.cells_one (x : ItS) : ∀ u ∈ x.cells, u.oneCell' = true := by
  intro u hu
  simp only [ItS.cells, List.mem_cons, List.not_mem_nil, or_false] at hu
  rcases hu with rfl | rfl | rfl | rfl <;> rfl
/-- A pointer's cell set anew: a heap with another row. -/
theorem HAt.store {W : World} {base p : Nat} {v v' : Value} {l' : List ItS} (hp : W.heap[p]? = some (.cells #[v] 27 (0, 0))) (ho : W.ownsRow base 33 4 v' l'.length (l'.flatMap ItS.cells)) (hn : v'.ownBlock ≠ some p) : HAt (W.setCell ⟨p, 0, none⟩ v') base p v' l' :=
  ⟨by have := blk_set hp 0 v'; simpa using this, own_set ho hn v'⟩
/-- The row's block is not the heap's own. -/
theorem HAt.apart {W : World} {base p : Nat} {v : Value} {l : List ItS} (h : HAt W base p v l) : v.ownBlock ≠ some p := own_ne_block h.2 h.1 (by decide)
theorem HAt.lt {W : World} {base p : Nat} {v : Value} {l : List ItS} (h : HAt W base p v l) : p < W.heap.size := (Array.getElem?_eq_some_iff.1 h.1).1
/-- What a heap's calls keep. -/
def HpTo (p : Nat) (v : Value) (W W' : World) (v' : Value) : Prop := Fr (fun k => k = p ∨ v.ownBlock = some k) W W' ∧ ∀ k, v'.ownBlock = some k → v.ownBlock = some k ∨ W.heap.size ≤ k
theorem HpTo.trans {p : Nat} {v v' v'' : Value} {W W' W'' : World} (h : HpTo p v W W' v') (k : HpTo p v' W' W'' v'') : HpTo p v W W'' v'' := by
  refine ⟨h.1.trans k.1 (fun j hj hk => ?_), fun j hj => ?_⟩
  · rcases hk with hk | hk
    · exact .inl hk
    · rcases h.2 j hk with h' | h'
      · exact .inr h'
      · omega
  · rcases k.2 j hj with h' | h'
    · exact h.2 j h'
    · exact .inr (Nat.le_trans h.1.size h')
theorem HpTo.below {p : Nat} {v : Value} {W W' : World} (h : Below W.heap.size W W') : HpTo p v W W' v := ⟨Fr.of_below h, fun _ h => .inl h⟩
theorem HpTo.row {p : Nat} {v : Value} {W W' : World} (h : Fr (fun k => v.ownBlock = some k) W W') : HpTo p v W W' v := ⟨h.mono (fun _ _ h => .inr h), fun _ h => .inl h⟩
set_option maxHeartbeats 4000000 in
set_option maxRecDepth 100000 in
theorem push_none (x : ItS) (W : World) : Calls Try.prog 16 #[.pointer none, iv4 x] W fun e w' => e = .returned (.tuple #[]) ∧ Below W.heap.size W w' := by
  have hb := Lib.hid (below_alloc1 W (.cells #[.int .u64 (x.hi : Nat), .int .u64 (x.lo : Nat), .int .i64 x.od, .int .i64 x.id] 33))
  go_enter Try.func16, Try.ntmps16
  go_wp2
  (try simp only [Exit.inBlock, Exit.then])
  refine bodyPost_ret (results_none rfl _ _ _) rfl ?_
  exact ⟨rfl, hb.out⟩
set_option maxHeartbeats 4000000 in
set_option maxRecDepth 100000 in
theorem push_ok {W : World} {base p : Nat} {v : Value} {l : List ItS} (h : HAt W base p v l) (hh : Hp ItS.Lt l) (hbase : base ≤ W.heap.size) (hlen : l.length < 1000) (x : ItS) :
    Calls Try.prog 16 #[.pointer (some ⟨p, 0, none⟩), iv4 x] W fun e w' => e = .returned (.tuple #[]) ∧ ∃ v' l', HAt w' base p v' l' ∧ Hp ItS.Lt l' ∧ l'.Perm (x :: l) ∧ HpTo p v W w' v' := by
  obtain ⟨A, c, hv, hlc, _, _, _⟩ := own_rd h.2
  have hap := Lib.hid h.apart
  have hlt := Lib.hid h.lt
  have HH := Lib.hid h
  have HU := Lib.hid (up_start hh x)
  clear h hh
  have q1 := alloc_at (w := W) (.cells #[.int .u64 (x.hi : Nat), .int .u64 (x.lo : Nat), .int .i64 x.od, .int .i64 x.id] 33) rfl
  have qb := below_alloc1 W (.cells #[.int .u64 (x.hi : Nat), .int .u64 (x.lo : Nat), .int .i64 x.od, .int .i64 x.id] 33)
  have hB := Lib.hid (below_up qb (below_drew1 (w := W.alloc (.cells #[.int .u64 (x.hi : Nat), .int .u64 (x.lo : Nat), .int .i64 x.od, .int .i64 x.id] 33))))
  have hX := Lib.hid (block_up q1 (below_drew1 (w := W.alloc (.cells #[.int .u64 (x.hi : Nat), .int .u64 (x.lo : Nat), .int .i64 x.od, .int .i64 x.id] 33))))
  clear q1 qb
  subst hv
  go_enter Try.func16, Try.ntmps16
  go_upto_region 2 with (fail)
  generalize (World.alloc W _) = Wa at *
  have HQ : Hid (∀ W' : World, Fr (fun k => (Value.slice A l.length c).ownBlock = some k) Wa.drew W' → (W'.cell? ⟨p, 0, none⟩ = some (.slice A l.length c)) ∧ (W'.cell? ⟨W.heap.size, 0, none⟩ = some (.int .u64 (x.hi : Nat)) ∧ W'.cell? ⟨W.heap.size, 1, none⟩ = some (.int .u64 (x.lo : Nat)) ∧ W'.cell? ⟨W.heap.size, 2, none⟩ = some (.int .i64 x.od) ∧ W'.cell? ⟨W.heap.size, 3, none⟩ = some (.int .i64 x.id)) ∧ Fr (fun k => (Value.slice A l.length c).ownBlock = some k) Wa.drew W') := Lib.hid (fun W' hf =>
    ⟨cells1 (blk_fr (HH.out.up hB.out).1 hf hap.out), cells4 (blk_fr hX.out hf (fun e => absurd (own_lt HH.out.2 _ e) (by omega))), hf⟩)
  refine beginS (S := fun W' => (W'.cell? ⟨p, 0, none⟩ = some (.slice A l.length c)) ∧ (W'.cell? ⟨W.heap.size, 0, none⟩ = some (.int .u64 (x.hi : Nat)) ∧ W'.cell? ⟨W.heap.size, 1, none⟩ = some (.int .u64 (x.lo : Nat)) ∧ W'.cell? ⟨W.heap.size, 2, none⟩ = some (.int .i64 x.od) ∧ W'.cell? ⟨W.heap.size, 3, none⟩ = some (.int .i64 x.id)) ∧ Fr (fun k => (Value.slice A l.length c).ownBlock = some k) Wa.drew W') [10] (by kernel_rfl) (HQ.out _ (Fr.refl _ _)) (fun hHeld0 => ?_)
  generalize (World.drew Wa) = W0 at *
  refine takeF (i := 0) (v := ?_) rfl (by kernel_rfl) (fun _ _ _ h => h) (Or.inl ⟨by kernel_rfl, ?_⟩) (by assumption) ?_; rotate_left; (focus (intro w _; go_simp; (try with_reducible rfl); done)); (try simp only [Act.put, List.getElem_toArray, List.getElem_cons_succ, List.getElem_cons_zero, List.setIfInBounds_toArray, List.set_cons_zero, List.set_cons_succ])
  refine takeF (i := 1) (v := ?_) rfl (by kernel_rfl) (fun _ _ _ h => h) (Or.inl ⟨by kernel_rfl, ?_⟩) (by assumption) ?_; rotate_left; (focus (intro w _; go_simp; (try with_reducible rfl); done)); (try simp only [Act.put, List.getElem_toArray, List.getElem_cons_succ, List.getElem_cons_zero, List.setIfInBounds_toArray, List.set_cons_zero, List.set_cons_succ])
  refine takeF (i := 2) (v := ?_) rfl (by kernel_rfl) (fun _ _ _ h => h) (Or.inl ⟨by kernel_rfl, ?_⟩) (by assumption) ?_; rotate_left; (focus (intro w _; go_simp; (try with_reducible rfl); done)); (try simp only [Act.put, List.getElem_toArray, List.getElem_cons_succ, List.getElem_cons_zero, List.setIfInBounds_toArray, List.set_cons_zero, List.set_cons_succ])
  refine takeF (i := 3) (v := ?_) rfl (by kernel_rfl) (fun _ _ _ h => h) (Or.inl ⟨by kernel_rfl, ?_⟩) (by assumption) ?_; rotate_left; (focus (intro w _; go_simp; (try with_reducible rfl); done)); (try simp only [Act.put, List.getElem_toArray, List.getElem_cons_succ, List.getElem_cons_zero, List.setIfInBounds_toArray, List.set_cons_zero, List.set_cons_succ])
  refine takeH (i := 4) (v := ?_) rfl (by kernel_rfl) (fun _ _ _ h => h) (Or.inl ⟨by kernel_rfl, ?_⟩) (by assumption) ?_; rotate_left; (focus (intro w hSw; (try dsimp only at hSw); go_simp; (try with_reducible rfl); done)); (try simp only [Act.put, List.getElem_toArray, List.getElem_cons_succ, List.getElem_cons_zero, List.setIfInBounds_toArray, List.set_cons_zero, List.set_cons_succ])
  refine takeH (i := 5) (v := ?_) rfl (by kernel_rfl) (fun _ _ _ h => h) (Or.inl ⟨by kernel_rfl, ?_⟩) (by assumption) ?_; rotate_left; (focus (intro w hSw; (try dsimp only at hSw); go_simp; (try with_reducible rfl); done)); (try simp only [Act.put, List.getElem_toArray, List.getElem_cons_succ, List.getElem_cons_zero, List.setIfInBounds_toArray, List.set_cons_zero, List.set_cons_succ])
  refine readyS (rs := [6]) (by kernel_rfl) (by simp) ?_
  refine ReadyS.consH rfl (fun K hK => ?_) ReadyS.nil
  (try simp only [List.getElem_toArray, List.getElem_cons_succ, List.getElem_cons_zero])
  go_simp
  have hN := Lib.hid (rd_new W0 #[.int .u64 (x.hi : Nat), .int .u64 (x.lo : Nat), .int .i64 x.od, .int .i64 x.id] 33 ([x].flatMap ItS.cells) rfl)
  have hB1 := Lib.hid (below_alloc hB.out (.cells #[.int .u64 (x.hi : Nat), .int .u64 (x.lo : Nat), .int .i64 x.od, .int .i64 x.id] 33))
  have hF1 := Lib.hid (Fr.of_below (S := fun k => (Value.slice A l.length c).ownBlock = some k) (below_alloc1 W0 (.cells #[.int .u64 (x.hi : Nat), .int .u64 (x.lo : Nat), .int .i64 x.od, .int .i64 x.id] 33)))
  refine hK.out _ _ (HQ.out _ hF1.out) (fun hHeld => ?_)
  clear hK K
  (try simp only [Act.put, List.getElem_toArray, List.getElem_cons_succ, List.getElem_cons_zero, List.setIfInBounds_toArray, List.set_cons_zero, List.set_cons_succ])
  clear hHeld0
  generalize (World.alloc W0 _) = W1 at *
  refine readyS (rs := [7]) (by kernel_rfl) (by simp) ?_
  refine ReadyS.consH rfl (fun K hK => ?_) ReadyS.nil
  (try simp only [List.getElem_toArray, List.getElem_cons_succ, List.getElem_cons_zero])
  rw [if_pos (by kernel_rfl)]
  refine wp_app _ _ 22 (by rfl) base 33 (.agg #[.int .u64 0, .int .u64 0, .int .i64 0, .int .i64 0]) 4 32 Try.underlying22 info_it rfl (by decide) (by decide) (.slice A l.length c) l.length (l.flatMap ItS.cells) (by rfl) _ 1 1 ([x].flatMap ItS.cells) (by rfl) (HH.out.up hB1.out).2 rfl hN.out (flat_one ItS.cells_one _) (by omega) (Nat.le_trans hbase hB1.out.size) ?_
  intro A1 c1 w1 hown hgrow hat
  have hF2 := Lib.hid (hF1.out.grown hgrow (fun k hk _ => hk))
  have hP2 := Lib.hid (blk_fr (HH.out.up hB.out).1 hF2.out hap.out)
  have hO2 : Hid (w1.ownsRow base 33 4 (.slice A1 (l.length + 1) c1) (l ++ [x]).length ((l ++ [x]).flatMap ItS.cells)) := Lib.hid (by rw [List.flatMap_append, List.length_append]; exact hown)
  have hat' : Hid ((Value.slice A1 (l.length + 1) c1).ownBlock = (Value.slice A l.length c).ownBlock ∨ (Value.slice A1 (l.length + 1) c1).ownBlock = some W1.heap.size) := hat
  clear hat hown hgrow hHeld
  refine hK.out _ _ (HQ.out _ hF2.out) (fun hHeld => ?_)
  clear hK K
  (try simp only [Act.put, List.getElem_toArray, List.getElem_cons_succ, List.getElem_cons_zero, List.setIfInBounds_toArray, List.set_cons_zero, List.set_cons_succ])
  have q0 := cells1 hP2.out
  have qf := free_block hP2.out 0
  refine takeF (i := 8) (v := ?_) rfl (by kernel_rfl) (fun _ _ _ h => h) (Or.inl ⟨by kernel_rfl, ?_⟩) (by assumption) ?_; rotate_left; (focus (intro w _; go_simp; (try with_reducible rfl); done)); (try simp only [Act.put, List.getElem_toArray, List.getElem_cons_succ, List.getElem_cons_zero, List.setIfInBounds_toArray, List.set_cons_zero, List.set_cons_succ])
  refine takeF (i := 9) (v := ?_) rfl (by kernel_rfl) (fun _ _ _ h => h) (Or.inl ⟨by kernel_rfl, ?_⟩) (by assumption) ?_; rotate_left; (focus (intro w _; go_simp; (try with_reducible rfl); done)); (try simp only [Act.put, List.getElem_toArray, List.getElem_cons_succ, List.getElem_cons_zero, List.setIfInBounds_toArray, List.set_cons_zero, List.set_cons_succ])
  clear hHeld
  refine readyS (rs := [10]) (by kernel_rfl) (by simp) ?_
  refine ReadyS.consP rfl (by kernel_rfl) (fun K hK => ?_) ReadyS.nil
  (try simp only [List.getElem_toArray, List.getElem_cons_succ, List.getElem_cons_zero])
  go_simp
  have hn2 : Hid ((Value.slice A1 (l.length + 1) c1).ownBlock ≠ some p) := Lib.hid (own_ne_block hO2.out hP2.out (by decide))
  have hA3 := Lib.hid (HAt.store hP2.out hO2.out hn2.out)
  have hF3 : Hid (Fr (fun k => k = p ∨ (Value.slice A l.length c).ownBlock = some k) W (w1.setCell ⟨p, 0, none⟩ (.slice A1 (l.length + 1) c1))) :=
    Lib.hid (((Fr.of_below hB.out).trans (hF2.out.mono (T := fun k => k = p ∨ (Value.slice A l.length c).ownBlock = some k) (fun _ _ h => .inr h)) (fun _ _ h => h)).set (fun _ => .inl rfl) _)
  have hT3 : Hid (HpTo p (.slice A l.length c) W (w1.setCell ⟨p, 0, none⟩ (.slice A1 (l.length + 1) c1)) (.slice A1 (l.length + 1) c1)) := Lib.hid ⟨hF3.out, fun k hk => hat'.out.elim (fun e => .inl (e ▸ hk)) (fun e => .inr (by rw [e] at hk; cases hk; exact hB1.out.size))⟩
  refine hK.out _ _ ?_
  clear hK K
  (try simp only [Act.put, List.getElem_toArray, List.getElem_cons_succ, List.getElem_cons_zero, List.setIfInBounds_toArray, List.set_cons_zero, List.set_cons_succ])
  refine doneS (by kernel_rfl) ?_ _
  clear q0 qf
  generalize (w1.setCell _ _) = w2 at *
  have hL : (l ++ [x]).length = l.length + 1 := by simp
  obtain ⟨l1, hl1⟩ : ∃ l1, l ++ [x] = l1 := ⟨_, rfl⟩
  have hPm : Hid (l1.Perm (x :: l)) := Lib.hid (by rw [← hl1]; exact List.perm_append_comm (l₁ := l) (l₂ := [x]))
  rw [hl1] at hL hA3 HU
  clear hl1
  have q0 := cells1 hA3.out.1
  have bl : (l.length : Int) < 1000 := by omega
  go_wp2_with fail
  go_loopw [4] (fun vi W' => ∃ (i : Nat) (l' : List ItS), vi = .int .i64 i ∧ i < l'.length ∧ l'.length = l.length + 1 ∧ HAt W' base p (.slice A1 (l.length + 1) c1) l' ∧ UpI ItS.Lt l' i ∧ l'.Perm (x :: l) ∧ HpTo p (.slice A l.length c) W W' (.slice A1 (l.length + 1) c1)) (fun vi _ => (intOf vi).toNat)
  case atStart => exact ⟨l.length, l1, rfl, by omega, hL, hA3.out, HU.out, hPm.out, hT3.out⟩
  case round =>
  obtain ⟨i, l', rfl, hi, hl', hA, hUp, hPe, hTo⟩ := hrel
  have HA := Lib.hid hA; clear hA
  have HUp := Lib.hid hUp; clear hUp
  have HPe := Lib.hid hPe; clear hPe
  have HTo := Lib.hid hTo; clear hTo
  by_cases hi0 : 0 < i
  · have di : decide ((i : Int) > 0) = true := decide_eq_true (by omega)
    have bi : (i : Int) < 2000 := by omega
    have bi1 : (1 : Int) ≤ i := by omega
    go_upto_region 6 with (fail)
    obtain ⟨u, hu⟩ : ∃ u : Nat, ((i : Int) - 1) / 2 = (u : Int) := ⟨(i - 1) / 2, by omega⟩
    rw [hu]
    have hu' : u = (i - 1) / 2 := by omega
    clear hu
    have hul : u < l'.length := by omega
    have bi2 : (i : Int) < l.length + 1 := by omega
    have bu : (u : Int) < l.length + 1 := by omega
    have hD := Lib.hid (below_drew1 (w := wr))
    have HC := Lib.hid (fun w => Less_ok l'[i] l'[u] w)
    have HYes : Hid (ItS.Lt l'[i] l'[u] → UpI ItS.Lt (sw l' i u hi hul) u) := Lib.hid (fun h => by subst hu'; exact up_step (lt := ItS.Lt) ItS.Lt.asym ItS.Lt.letr HUp.out hi hi0 h)
    have HNo : Hid (¬ ItS.Lt l'[i] l'[u] → Hp ItS.Lt l') := Lib.hid (fun h => by subst hu'; exact up_end HUp.out hi hi0 h)
    have hm : u < i := by omega
    clear hu'
    obtain ⟨g, hg, _⟩ := HA.out.view (Below.refl _ _) hi
    subst hg
    have HQ : Hid (∀ W' : World, Below wr.heap.size wr W' → (W'.cell? ⟨p, 0, none⟩ = some (.slice (some ⟨g, 0, none⟩) (l.length + 1) c1)) ∧ (W'.cell? ⟨g, i * 4, none⟩ = some (.int .u64 (l'[i].hi : Nat)) ∧ W'.cell? ⟨g, i * 4 + 1, none⟩ = some (.int .u64 (l'[i].lo : Nat)) ∧ W'.cell? ⟨g, i * 4 + 2, none⟩ = some (.int .i64 l'[i].od) ∧ W'.cell? ⟨g, i * 4 + 3, none⟩ = some (.int .i64 l'[i].id)) ∧ (W'.cell? ⟨g, u * 4, none⟩ = some (.int .u64 (l'[u].hi : Nat)) ∧ W'.cell? ⟨g, u * 4 + 1, none⟩ = some (.int .u64 (l'[u].lo : Nat)) ∧ W'.cell? ⟨g, u * 4 + 2, none⟩ = some (.int .i64 l'[u].od) ∧ W'.cell? ⟨g, u * 4 + 3, none⟩ = some (.int .i64 l'[u].id)) ∧ Below wr.heap.size wr W') := Lib.hid (fun W' hb => by
      obtain ⟨g1, e1, f1⟩ := HA.out.view hb hi
      obtain ⟨g2, e2, f2⟩ := HA.out.view hb hul
      cases e1; cases e2
      exact ⟨cells1 (HA.out.up hb).1, f1, f2, hb⟩)
    have HSw : Hid (∀ W', Below wr.heap.size wr W' → Calls Try.prog 59 #[.pointer (some ⟨p, 0, none⟩), .int .i64 i, .int .i64 u] W' fun e w' => e = .returned (.tuple #[]) ∧ HAt w' base p (.slice (some ⟨g, 0, none⟩) (l.length + 1) c1) (sw l' i u hi hul) ∧ Fr (fun k => (Value.slice (some ⟨g, 0, none⟩) (l.length + 1) c1).ownBlock = some k) W' w') := Lib.hid (fun W' hb => swap_ok (HA.out.up hb) i u hi hul)
    have HPm := Lib.hid (sw_perm l' i u hi hul)
    generalize hx : l'[i] = y at *
    generalize hy : l'[u] = z at *
    clear hx hy
    refine beginS (S := fun W' => (W'.cell? ⟨p, 0, none⟩ = some (.slice (some ⟨g, 0, none⟩) (l.length + 1) c1)) ∧ (W'.cell? ⟨g, i * 4, none⟩ = some (.int .u64 (y.hi : Nat)) ∧ W'.cell? ⟨g, i * 4 + 1, none⟩ = some (.int .u64 (y.lo : Nat)) ∧ W'.cell? ⟨g, i * 4 + 2, none⟩ = some (.int .i64 y.od) ∧ W'.cell? ⟨g, i * 4 + 3, none⟩ = some (.int .i64 y.id)) ∧ (W'.cell? ⟨g, u * 4, none⟩ = some (.int .u64 (z.hi : Nat)) ∧ W'.cell? ⟨g, u * 4 + 1, none⟩ = some (.int .u64 (z.lo : Nat)) ∧ W'.cell? ⟨g, u * 4 + 2, none⟩ = some (.int .i64 z.od) ∧ W'.cell? ⟨g, u * 4 + 3, none⟩ = some (.int .i64 z.id)) ∧ Below wr.heap.size wr W') [] (by kernel_rfl) (HQ.out _ hD.out) (fun hHeld0 => ?_)
    generalize (World.drew wr) = W0 at *
    refine takeF (i := 0) (v := ?_) rfl (by kernel_rfl) (fun _ _ _ h => h) (Or.inl ⟨by kernel_rfl, ?_⟩) (by assumption) ?_; rotate_left; (focus (intro w _; go_simp; (try with_reducible rfl); done)); (try simp only [Act.put, List.getElem_toArray, List.getElem_cons_succ, List.getElem_cons_zero, List.setIfInBounds_toArray, List.set_cons_zero, List.set_cons_succ])
    refine takeF (i := 1) (v := ?_) rfl (by kernel_rfl) (fun _ _ _ h => h) (Or.inl ⟨by kernel_rfl, ?_⟩) (by assumption) ?_; rotate_left; (focus (intro w _; go_simp; (try with_reducible rfl); done)); (try simp only [Act.put, List.getElem_toArray, List.getElem_cons_succ, List.getElem_cons_zero, List.setIfInBounds_toArray, List.set_cons_zero, List.set_cons_succ])
    refine takeF (i := 2) (v := ?_) rfl (by kernel_rfl) (fun _ _ _ h => h) (Or.inl ⟨by kernel_rfl, ?_⟩) (by assumption) ?_; rotate_left; (focus (intro w _; go_simp; (try with_reducible rfl); done)); (try simp only [Act.put, List.getElem_toArray, List.getElem_cons_succ, List.getElem_cons_zero, List.setIfInBounds_toArray, List.set_cons_zero, List.set_cons_succ])
    refine takeH (i := 3) (v := ?_) rfl (by kernel_rfl) (fun _ _ _ h => h) (Or.inl ⟨by kernel_rfl, ?_⟩) (by assumption) ?_; rotate_left; (focus (intro w hSw; (try dsimp only at hSw); go_simp; (try with_reducible rfl); done)); (try simp only [Act.put, List.getElem_toArray, List.getElem_cons_succ, List.getElem_cons_zero, List.setIfInBounds_toArray, List.set_cons_zero, List.set_cons_succ])
    refine takeF (i := 4) (v := ?_) rfl (by kernel_rfl) (fun _ _ _ h => h) (Or.inl ⟨by kernel_rfl, ?_⟩) (by assumption) ?_; rotate_left; (focus (intro w _; go_simp; (try with_reducible rfl); done)); (try simp only [Act.put, List.getElem_toArray, List.getElem_cons_succ, List.getElem_cons_zero, List.setIfInBounds_toArray, List.set_cons_zero, List.set_cons_succ])
    refine takeF (i := 5) (v := ?_) rfl (by kernel_rfl) (fun _ _ _ h => h) (Or.inl ⟨by kernel_rfl, ?_⟩) (by assumption) ?_; rotate_left; (focus (intro w _; go_simp; (try with_reducible rfl); done)); (try simp only [Act.put, List.getElem_toArray, List.getElem_cons_succ, List.getElem_cons_zero, List.setIfInBounds_toArray, List.set_cons_zero, List.set_cons_succ])
    refine takeH (i := 6) (v := ?_) rfl (by kernel_rfl) (fun _ _ _ h => h) (Or.inl ⟨by kernel_rfl, ?_⟩) (by assumption) ?_; rotate_left; (focus (intro w hSw; (try dsimp only at hSw); go_simp; (try with_reducible rfl); done)); (try simp only [Act.put, List.getElem_toArray, List.getElem_cons_succ, List.getElem_cons_zero, List.setIfInBounds_toArray, List.set_cons_zero, List.set_cons_succ])
    refine takeF (i := 7) (v := ?_) rfl (by kernel_rfl) (fun _ _ _ h => h) (Or.inl ⟨by kernel_rfl, ?_⟩) (by assumption) ?_; rotate_left; (focus (intro w _; go_simp; (try with_reducible rfl); done)); (try simp only [Act.put, List.getElem_toArray, List.getElem_cons_succ, List.getElem_cons_zero, List.setIfInBounds_toArray, List.set_cons_zero, List.set_cons_succ])
    refine takeF (i := 8) (v := ?_) rfl (by kernel_rfl) (fun _ _ _ h => h) (Or.inl ⟨by kernel_rfl, ?_⟩) (by assumption) ?_; rotate_left; (focus (intro w _; go_simp; (try with_reducible rfl); done)); (try simp only [Act.put, List.getElem_toArray, List.getElem_cons_succ, List.getElem_cons_zero, List.setIfInBounds_toArray, List.set_cons_zero, List.set_cons_succ])
    refine takeF (i := 9) (v := ?_) rfl (by kernel_rfl) (fun _ _ _ h => h) (Or.inl ⟨by kernel_rfl, ?_⟩) (by assumption) ?_; rotate_left; (focus (intro w _; go_simp; (try with_reducible rfl); done)); (try simp only [Act.put, List.getElem_toArray, List.getElem_cons_succ, List.getElem_cons_zero, List.setIfInBounds_toArray, List.set_cons_zero, List.set_cons_succ])
    refine takeH (i := 10) (v := ?_) rfl (by kernel_rfl) (fun _ _ _ h => h) (Or.inl ⟨by kernel_rfl, ?_⟩) (by assumption) ?_; rotate_left; (focus (intro w hSw; (try dsimp only at hSw); go_simp; (try with_reducible rfl); done)); (try simp only [Act.put, List.getElem_toArray, List.getElem_cons_succ, List.getElem_cons_zero, List.setIfInBounds_toArray, List.set_cons_zero, List.set_cons_succ])
    refine takeF (i := 11) (v := ?_) rfl (by kernel_rfl) (fun _ _ _ h => h) (Or.inl ⟨by kernel_rfl, ?_⟩) (by assumption) ?_; rotate_left; (focus (intro w _; go_simp; (try with_reducible rfl); done)); (try simp only [Act.put, List.getElem_toArray, List.getElem_cons_succ, List.getElem_cons_zero, List.setIfInBounds_toArray, List.set_cons_zero, List.set_cons_succ])
    refine takeF (i := 12) (v := ?_) rfl (by kernel_rfl) (fun _ _ _ h => h) (Or.inl ⟨by kernel_rfl, ?_⟩) (by assumption) ?_; rotate_left; (focus (intro w _; go_simp; (try with_reducible rfl); done)); (try simp only [Act.put, List.getElem_toArray, List.getElem_cons_succ, List.getElem_cons_zero, List.setIfInBounds_toArray, List.set_cons_zero, List.set_cons_succ])
    refine takeH (i := 13) (v := ?_) rfl (by kernel_rfl) (fun _ _ _ h => h) (Or.inl ⟨by kernel_rfl, ?_⟩) (by assumption) ?_; rotate_left; (focus (intro w hSw; (try dsimp only at hSw); go_simp; (try with_reducible rfl); done)); (try simp only [Act.put, List.getElem_toArray, List.getElem_cons_succ, List.getElem_cons_zero, List.setIfInBounds_toArray, List.set_cons_zero, List.set_cons_succ])
    refine readyS (rs := [14]) (by kernel_rfl) (by simp) ?_
    refine ReadyS.consH rfl (fun K hK => ?_) ReadyS.nil
    (try simp only [List.getElem_toArray, List.getElem_cons_succ, List.getElem_cons_zero])
    go_simp
    (with_reducible refine (HC.out _).mono ?_); rintro e W1 ⟨rfl, hb⟩
    have H1 := Lib.hid (below_up hD.out hb); clear hb hHeld0
    refine hK.out _ _ (HQ.out _ H1.out) (fun hHeld => ?_)
    clear hK K
    (try simp only [Act.put, List.getElem_toArray, List.getElem_cons_succ, List.getElem_cons_zero, List.setIfInBounds_toArray, List.set_cons_zero, List.set_cons_succ])
    refine takeF (i := 15) (v := ?_) rfl (by kernel_rfl) (fun _ _ _ h => h) (Or.inl ⟨by kernel_rfl, ?_⟩) (by assumption) ?_; rotate_left; (focus (intro w _; go_simp; (try with_reducible rfl); done)); (try simp only [Act.put, List.getElem_toArray, List.getElem_cons_succ, List.getElem_cons_zero, List.setIfInBounds_toArray, List.set_cons_zero, List.set_cons_succ])
    clear hHeld
    refine doneS (by kernel_rfl) ?_ _
    have hA1 := Lib.hid (HA.out.up H1.out)
    have hT1 := Lib.hid (HTo.out.trans (HpTo.below H1.out))
    by_cases hlt : ItS.Lt y z
    · have hd : decide (ItS.Lt y z) = true := decide_eq_true hlt
      have HY := Lib.hid (HYes.out hlt)
      rw [hd]
      clear hd hlt
      go_wp2_with fail
      (with_reducible refine (HSw.out _ H1.out).mono ?_); rintro e W2 ⟨rfl, hA2, hF2⟩
      have HA2 := Lib.hid hA2; clear hA2
      have HT2 := Lib.hid (hT1.out.trans (HpTo.row hF2)); clear hF2
      go_wp2
      exact ⟨⟨u, _, rfl, by rw [sw_len]; omega, by rw [sw_len]; exact hl', HA2.out, HY.out, HPm.out.trans HPe.out, HT2.out⟩, by simp [intOf]; omega⟩
    · have hd : decide (ItS.Lt y z) = false := decide_eq_false hlt
      have HN := Lib.hid (HNo.out hlt)
      rw [hd]
      clear hd hlt
      go_wp2
      (try simp only [Exit.inBlock, Exit.then])
      refine bodyPost_ret (results_none rfl _ _ _) rfl ?_
      exact ⟨rfl, _, l', hA1.out, HN.out, HPe.out, hT1.out⟩
  · obtain rfl : i = 0 := by omega
    go_wp2
    go_end0
    exact ⟨rfl, _, l', HA.out, up_end0 HUp.out, HPe.out, HTo.out⟩
end Go.Proofs.Ytkjapmafipnmpaa.Hp
