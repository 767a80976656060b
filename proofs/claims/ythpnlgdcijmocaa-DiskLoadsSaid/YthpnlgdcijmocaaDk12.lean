/- The walk over disk's Read. -/
import Derived.Test.YthpnlgdcijmocaaDk11
namespace Go.Proofs.Ythpnlgdcijmocaa.Dk
open Go.RowKit Go.Shelf Rg Mp
set_option linter.unusedVariables false
set_option linter.unusedSimpArgs false
attribute [local go_sem] Oper.semAt_some
def rdE (d : DkS) (at_ : Int) : Nat := if brkB d = true then 20 else if at_ < 0 ∨ (d.sure.length : Int) ≤ at_ then 4 else 0
def rdV (d : DkS) (at_ : Int) : Oc := if brkB d = true then [] else if at_ < 0 ∨ (d.sure.length : Int) ≤ at_ then [] else rd d at_.toNat
/-- Behind k that came from behind without a hit, what is read is of the rest. -/
theorem lastW_drop (ws : List Wt) (a : Nat) : ∀ k, k ≤ ws.length → (∀ j, ws.length - k ≤ j → ∀ h : j < ws.length, ws[j].1 ≠ a) → lastW ws a = lastW (ws.take (ws.length - k)) a := by
  intro k
  induction k with
  | zero => intro _ _; simp
  | succ k ih =>
    intro hk h
    rw [ih (by omega) (fun j hj hl => h j (by omega) hl)]
    have hj : ws.length - (k + 1) < ws.length := by omega
    have e : ws.length - k = (ws.length - (k + 1)) + 1 := by omega
    rw [e, lastW_take ws a _ hj, if_neg (h _ (Nat.le_refl _) hj)]
/-- A region that does not panic. -/
def NoP (Q : Exit → Act → World → Prop) : Exit → Act → World → Prop
  | .panic _, _, _ => False
  | e, a, w => Q e a w
theorem wp_noP {P : Program} {c : Code} {Q : Exit → Act → World → Prop} {a : Act} {w : World} (h : c.wp P (NoP Q) a w) : c.wp P Q a w := wp_mono h (fun e a w hq => by cases e <;> first | exact hq | exact hq.elim)
theorem blk_grown {W W' : World} {b B : Nat} {cs : Array Value} {t : TypeId} {f : Nat × Nat} {row : Option Nat} (h : W.heap[b]? = some (.cells cs t f)) (hg : W.grownBy W' row) (hr : ∀ r, row = some r → B ≤ r ∧ ∃ o : Obj, W.heap[r]? = some o ∧ o.isCells = false) : W'.heap[b]? = some (.cells cs t f) :=
  (hg.block b (Array.getElem?_eq_some_iff.1 h).1 (fun e => by
    obtain ⟨_, o, ho, hc⟩ := hr b e.symm
    rw [h] at ho
    cases ho
    cases hc)).trans h
theorem own_grown {W W' : World} {base B size n : Nat} {e : TypeId} {v : Value} {xs : List Value} {row : Option Nat} (h : W.ownsRow base e size v n xs) (hg : W.grownBy W' row) (hr : ∀ r, row = some r → B ≤ r ∧ ∃ o : Obj, W.heap[r]? = some o ∧ o.isCells = false) : W'.ownsRow base e size v n xs :=
  own_move h fun k hk => by
    obtain ⟨cs, hc⟩ := own_typed h k hk
    exact (blk_grown hc hg hr).trans hc.symm
/-- None of those that came was of that sector. -/
theorem last_none {ws : List Wt} {a n : Nat} (hn : n = ws.length) {f : Nat → Nat} (hf : ∀ k, f k = n - 1 - k) (h : ∀ j ∈ upto f n, (ws.getD j (0, [])).1 ≠ a) : lastW ws a = none := by
  subst hn
  rw [lastW_drop ws a ws.length (Nat.le_refl _) (fun j _ hj => ?_)]
  · simp [lastW]
  · have hm : j ∈ upto f ws.length := List.mem_map.2 ⟨ws.length - 1 - j, List.mem_range.2 (by omega), by rw [hf]; omega⟩
    have := h j hm
    rwa [List.getD_eq_getElem?_getD, List.getElem?_eq_getElem hj] at this
/-- The last one that came was. -/
theorem last_some {ws : List Wt} {a n k : Nat} (hn : n = ws.length) (hk : k ≤ n) {f : Nat → Nat} (hf : ∀ k, f k = n - 1 - k) {ini : List Nat} {j : Nat} (hp : ini ++ [j] = upto f k) (h : ∀ i ∈ ini, (ws.getD i (0, [])).1 ≠ a) (hj : (ws.getD j (0, [])).1 = a) : lastW ws a = some (ws.getD j (0, [])).2 := by
  subst hn
  have hlen : ini.length + 1 = k := by have := congrArg List.length hp; rwa [List.length_append, upto_length] at this
  subst hlen
  rw [upto_succ] at hp
  obtain ⟨h1, h2⟩ := List.append_inj' hp rfl
  cases h2
  have hjl : ws.length - ini.length = (ws.length - (ini.length + 1)) + 1 := by omega
  have hfj : f ini.length = ws.length - (ini.length + 1) := by rw [hf]; omega
  rw [hfj] at hj ⊢
  have hlt : ws.length - (ini.length + 1) < ws.length := by omega
  rw [List.getD_eq_getElem?_getD, List.getElem?_eq_getElem hlt] at hj ⊢
  simp only [Option.getD_some] at hj ⊢
  rw [lastW_drop ws a ini.length (by omega) (fun i hi hl => ?_), hjl, lastW_take ws a _ hlt, if_pos hj]
  · have hm : i ∈ ini := by
      rw [h1]
      exact List.mem_map.2 ⟨ws.length - 1 - i, List.mem_range.2 (by omega), by rw [hf]; omega⟩
    have := h i hm
    rwa [List.getD_eq_getElem?_getD, List.getElem?_eq_getElem hl] at this
theorem keeps_below {W W' : World} (B : Nat) (h : Below W.heap.size W W') : KeepsFrom B W W' := ⟨h.size, fun k o _ hk _ => block_up hk h⟩
theorem read_res {tmps : Array Value} {w : World} {b1 b2 : Nat} {v : Value} {n : Int} (h1 : tmps[4]? = some (.pointer (some ⟨b1, 0, none⟩))) (h2 : tmps[5]? = some (.pointer (some ⟨b2, 0, none⟩))) (c1 : w.cell? ⟨b1, 0, none⟩ = some v) (c2 : w.cell? ⟨b2, 0, none⟩ = some (.int .i64 n)) :
    (results Try.f41 tmps).run Try.prog w = .ok (.tuple #[v, .int .i64 n]) w := by
  simp [results, Try.results41, Try.f41, go_sem, h1, h2, c1, c2]
section
variable {L : Int → Prop} {W W' : World} {base N g r : Nat} {vs vw vf : Value} {d d' : DkS}
theorem DQ.fr_out {sure : List Oc} {waits : List Wt} {F : Int → Option Value} {fates : List Int} {S : Nat → Prop} (h : DQ W base N vs vw r vf sure waits F fates) (hf : Fr S W W') (h1 : ∀ k, vs.ownBlock = some k → ¬ S k) (h2 : ∀ k, S k → ∀ cs, W.heap[k]? ≠ some (.cells cs 5 (0, 0))) (h3 : ∀ k, S k → ∀ cs, W.heap[k]? ≠ some (.cells cs 139 (0, 0))) (h4 : ∀ k, S k → ∀ cs, W.heap[k]? ≠ some (.cells cs 3 (0, 0))) (h5 : ¬ S r) : DQ W' base N vs vw r vf sure waits F fates := by
  obtain ⟨sv, a1, a2, a3⟩ := h.s
  exact ⟨⟨sv, own_fr a1 hf h1, a2, fun i a b => own_ty (a3 i a b) hf h2⟩, h.w.fr hf h3 h2, h.m.fr hf h5, h.rb, h.f.fr hf h4⟩
/-- Results' cells are stored: the disk stands as it stood. -/
theorem DAt.out2 (h : DAt L W base N g vs vw r d) {b1 b2 : Nat} {c1 c2 : Value} {t1 t2 : TypeId} (q1 : W.heap[b1]? = some (.cells #[c1] t1 (0, 0))) (q2 : W.heap[b2]? = some (.cells #[c2] t2 (0, 0))) (ht1 : t1 = 78) (ht2 : t2 = 30) (hn : vs.ownBlock ≠ some b1) (hf : Fr (fun k => k = b1 ∨ k = b2) W W') :
    DAt L W' base N g vs vw r d := by
  subst ht1 ht2
  obtain ⟨gb, ok, vf, lf, cl, hb, hq, h3, h4⟩ := h
  have hg : ¬ (g = b1 ∨ g = b2) := by
    rintro (rfl | rfl)
    · exact cells_ne hb (by decide) q1
    · exact cells_ne hb (by decide) q2
  refine ⟨gb, ok, vf, lf, cl, blk_fr hb hf hg, hq.fr_out hf (fun k e hk => ?_) (fun k hk cs => ?_) (fun k hk cs => ?_) (fun k hk cs => ?_) (fun hk => ?_), h3, h4⟩
  · rcases hk with rfl | rfl
    · exact hn e
    · obtain ⟨sv, a1, _⟩ := hq.s
      exact own_ne_block a1 q2 (by decide) e
  · rcases hk with rfl | rfl
    · exact cells_ne q1 (by decide)
    · exact cells_ne q2 (by decide)
  · rcases hk with rfl | rfl
    · exact cells_ne q1 (by decide)
    · exact cells_ne q2 (by decide)
  · rcases hk with rfl | rfl
    · exact cells_ne q1 (by decide)
    · exact cells_ne q2 (by decide)
  · rcases hk with rfl | rfl
    · exact map_ne hq.m q1
    · exact map_ne hq.m q2
set_option maxHeartbeats 8000000 in
set_option maxRecDepth 100000 in
theorem dread_ok (h : DAt L W base N g vs vw r d) (hwl : d.waits.length ≤ 1099511627776) (at_ : Int) (hat : i64 at_) :
    Calls Try.prog 41 #[.pointer (some ⟨g, 0, none⟩), .int .i64 at_] W fun e w' => ∃ v, e = .returned (.tuple #[v, .int .i64 (rdE d at_ : Nat)]) ∧ w'.ownsRow W.heap.size 5 1 v (rdV d at_).length (bv (rdV d at_)) ∧ DTo L base N g vs vw r (brk d) W w' := by
  have h0 := h
  obtain ⟨E, hE⟩ : ∃ n, rdE d at_ = n := ⟨_, rfl⟩
  obtain ⟨V, hV⟩ : ∃ n, rdV d at_ = n := ⟨_, rfl⟩
  obtain ⟨B, hB⟩ : ∃ x, brkB d = x := ⟨_, rfl⟩
  rw [hE, hV]
  have hEV : (B = true → E = 20 ∧ V = []) ∧ (B = false → (at_ < 0 ∨ (d.sure.length : Int) ≤ at_) → E = 4 ∧ V = []) ∧ (B = false → ¬ (at_ < 0 ∨ (d.sure.length : Int) ≤ at_) → E = 0 ∧ V = rd d at_.toNat) := by
    rw [← hE, ← hV, ← hB]; unfold rdE rdV
    refine ⟨fun h => ?_, fun h h' => ?_, fun h h' => ?_⟩
    · simp only [h, if_true, and_self]
    · simp only [h, Bool.false_eq_true, if_false, h', if_true, and_self]
    · simp only [h, Bool.false_eq_true, if_false, h', and_self]
  have HEV := Lib.hid hEV
  clear hE hV hEV
  have hsm := brk_same d
  have HSm := Lib.hid hsm
  have s1 := fun (W : World) (o : Obj) => (show (W.alloc o).heap.size = W.heap.size + 1 by unfold World.alloc; simp)
  have hb1 := below_alloc1 W (.cells #[.int .i64 at_] 3)
  have q1 := alloc_at (w := W) (.cells #[.int .i64 at_] 3) rfl
  obtain ⟨W1, hW1⟩ : ∃ W1, W.alloc (.cells #[.int .i64 at_] 3) = W1 := ⟨_, rfl⟩
  have z1 := s1 W (.cells #[.int .i64 at_] 3)
  rw [hW1] at hb1 q1 z1
  have hb2 := below_alloc hb1 (.cells #[.slice none 0 0] 78)
  have q2 := alloc_at (w := W1) (.cells #[.slice none 0 0] 78) z1.symm
  have q12 := alloc_old q1 (.cells #[.slice none 0 0] 78)
  obtain ⟨W2, hW2⟩ : ∃ W2, W1.alloc (.cells #[.slice none 0 0] 78) = W2 := ⟨_, rfl⟩
  have z2 := s1 W1 (.cells #[.slice none 0 0] 78)
  rw [hW2] at hb2 q2 q12 z2
  rw [z1] at z2
  have hb3 := below_alloc hb2 (.cells #[.int .i64 0] 30)
  have q3 := alloc_at (w := W2) (.cells #[.int .i64 0] 30) z2.symm
  have q13 := alloc_old q12 (.cells #[.int .i64 0] 30)
  have q23 := alloc_old q2 (.cells #[.int .i64 0] 30)
  obtain ⟨W3, hW3⟩ : ∃ W3, W2.alloc (.cells #[.int .i64 0] 30) = W3 := ⟨_, rfl⟩
  have z3 := s1 W2 (.cells #[.int .i64 0] 30)
  rw [hW3] at hb3 q3 q13 q23 z3
  rw [z2] at z3
  have hd3 := h.up hb3
  have hglt : g < W.heap.size := by
    obtain ⟨_, _, _, hb, _⟩ := h.ex
    exact (Array.getElem?_eq_some_iff.1 hb).1
  have HBr := Lib.hid (brokenS_ok hd3)
  rw [hB] at HBr
  have HIs := Lib.hid (is_ok (by obtain ⟨_, _, _, hb, _⟩ := hd3.ex; exact cell_block hb 0))
  have H3 := Lib.hid (And.intro hb3 (And.intro q13 (And.intro q23 (And.intro q3 (And.intro hd3 (And.intro z3 hglt))))))
  subst hW1 hW2 hW3
  clear hb1 q1 z1 hb2 q2 q12 z2 hb3 q3 q13 q23 z3 hd3 h s1 hsm
  refine (callsIn_wide (n := 8)).1 ?_
  refine callsIn_of_wp_marks Try.func41 rfl trivial ?_ rfl
  refine wpIn_wide.2 ?_
  simp only [Try.ntmps41, List.size_toArray, List.length_cons, List.length_nil, Nat.reduceAdd, Nat.reduceSub, Array.replicate_succ, Array.replicate_zero, List.push_toArray, List.append_toArray, List.nil_append, List.cons_append]
  go_wp2_with fail
  generalize (((W.alloc _).alloc _).alloc _) = W3 at *
  (with_reducible refine HIs.out.mono ?_); rintro e w1 ⟨rfl, rfl⟩
  go_wp2_with fail
  (with_reducible refine HBr.out.mono ?_); rintro e W4 ⟨rfl, hd4, hf4⟩
  have hne : ∀ k, W.heap.size ≤ k → ¬ (k = g) := fun k hk e => by have := H3.out.2.2.2.2.2.2; omega
  have H4 := Lib.hid (And.intro (blk_fr H3.out.2.1 hf4 (hne _ (Nat.le_refl _))) (And.intro (blk_fr H3.out.2.2.1 hf4 (hne _ (by omega))) (And.intro (blk_fr H3.out.2.2.2.1 hf4 (hne _ (by omega))) (And.intro hd4 ((Fr.of_below (S := fun k => k = g) H3.out.1).trans hf4 (fun _ _ h => h))))))
  clear hd4 hf4 hne
  have e0 := cell_block H4.out.1 0
  have e1 := cell_block H4.out.2.1 0
  have e2 := cell_block H4.out.2.2.1 0
  have f1 := free_block H4.out.2.1
  have f2 := free_block H4.out.2.2.1
  simp only [List.getElem?_toArray, List.getElem?_cons_zero] at e0 e1 e2
  have HRes : Hid (∀ Wz : World, Fr (fun k => k = W.heap.size + 1 ∨ k = W.heap.size + 1 + 1) W4 Wz → DTo L base N g vs vw r (brk d) W Wz) := Lib.hid (fun Wz hf => by
    have hnv : vs.ownBlock ≠ some (W.heap.size + 1) := fun e => by
      obtain ⟨sv, a1, _⟩ := h0.s
      have := own_lt a1 _ e
      omega
    exact ⟨vw, H4.out.2.2.2.1.out2 H4.out.2.1 H4.out.2.2.1 rfl rfl hnv hf, (H4.out.2.2.2.2.mono (fun k _ e => (.inl e : DO g vs vw r k))).trans hf (fun k hk e => by rcases e with rfl | rfl <;> omega), fun k hk => .inl hk⟩)
  have HSet : Hid (∀ (v x : Value) (Wa : World), Below W4.heap.size W4 Wa → Fr (fun k => k = W.heap.size + 1 ∨ k = W.heap.size + 1 + 1) W4 ((Wa.setCell ⟨W.heap.size + 1, 0, none⟩ v).setCell ⟨W.heap.size + 1 + 1, 0, none⟩ x)) := Lib.hid (fun v x Wa hb => ((Fr.of_below hb).set (p := ⟨W.heap.size + 1, 0, none⟩) (fun _ => .inl rfl) v).set (p := ⟨W.heap.size + 1 + 1, 0, none⟩) (fun _ => .inr rfl) x)
  cases B with
  | true =>
    obtain ⟨rfl, rfl⟩ := HEV.out.1 rfl
    have hs1 := blk_set H4.out.2.1 0 (.slice none 0 0)
    have hs2 := blk_set (blk_far H4.out.2.2.1 (p := ⟨W.heap.size + 1, 0, none⟩) (by simp) (.slice none 0 0)) 0 (.int .i64 20)
    have hs1' := blk_far hs1 (p := ⟨W.heap.size + 1 + 1, 0, none⟩) (by simp) (.int .i64 20)
    have c1 := cell_block hs1' 0
    have c2 := cell_block hs2 0
    have hres : DTo L base N g vs vw r (brk d) W ((W4.setCell ⟨W.heap.size + 1, 0, none⟩ (.slice none 0 0)).setCell ⟨W.heap.size + 1 + 1, 0, none⟩ (.int .i64 20)) := HRes.out _ (HSet.out _ _ _ (Below.refl _ _))
    have HR := Lib.hid (And.intro c1 (And.intro c2 hres))
    clear hs1 hs2 hs1' c1 c2 hres
    go_wp2
    exact ⟨_, read_res rfl rfl HR.out.1 HR.out.2.1, _, rfl, ⟨rfl, .inl ⟨rfl, rfl⟩⟩, HR.out.2.2⟩
  | false =>
    obtain ⟨cw, cs, fz⟩ := H4.out.2.2.2.1.cell
    have hd0 := below_drew1 (w := W4)
    obtain ⟨As, ccs, e, _⟩ := h0.s.slice
    subst e
    have hb0 := cell_up e0 hd0
    have hcs := cell_up cs hd0
    by_cases c1 : at_ < 0
    · obtain ⟨rfl, rfl⟩ := HEV.out.2.1 rfl (.inl c1)
      have k1 : decide (at_ < 0) = true := decide_eq_true c1
      go_wp2_with fail
      refine wp_noP ?_
      refine beginS (S := fun W' => W'.cell? ⟨W.heap.size, 0, none⟩ = some (.int .i64 at_)) [] (by kernel_rfl) hb0 (fun hHeld0 => ?_)
      have HD0 := Lib.hid hd0
      generalize (World.drew W4) = W5 at *
      clear hb0 hd0 hcs
      refine takeH (i := 0) (v := ?_) rfl (by kernel_rfl) (fun _ _ _ h => h) (Or.inl ⟨by kernel_rfl, ?_⟩) (by assumption) ?_; rotate_left; (focus (intro w hSw; (try dsimp only at hSw); go_simp; (try with_reducible rfl); done)); (try simp only [Act.put, List.getElem_toArray, List.getElem_cons_succ, List.getElem_cons_zero, List.setIfInBounds_toArray, List.set_cons_zero, List.set_cons_succ])
      refine takeF (i := 1) (v := ?_) rfl (by kernel_rfl) (fun _ _ _ h => h) (Or.inl ⟨by kernel_rfl, ?_⟩) (by assumption) ?_; rotate_left; (focus (intro w _; go_simp; (try with_reducible rfl); done)); (try simp only [Act.put, List.getElem_toArray, List.getElem_cons_succ, List.getElem_cons_zero, List.setIfInBounds_toArray, List.set_cons_zero, List.set_cons_succ])
      refine takeF (i := 2) (v := ?_) rfl (by kernel_rfl) (fun _ _ _ h => h) (Or.inl ⟨by kernel_rfl, ?_⟩) (by assumption) ?_; rotate_left; (focus (intro w _; go_simp; (try with_reducible rfl); done)); (try simp only [Act.put, List.getElem_toArray, List.getElem_cons_succ, List.getElem_cons_zero, List.setIfInBounds_toArray, List.set_cons_zero, List.set_cons_succ])
      refine takeF (i := 3) (v := undef) rfl (by kernel_rfl) (fun _ _ _ h => h) (Or.inr ⟨by kernel_rfl, rfl⟩) (by assumption) ?_; (try simp only [Act.put, List.getElem_toArray, List.getElem_cons_succ, List.getElem_cons_zero, List.setIfInBounds_toArray, List.set_cons_zero, List.set_cons_succ])
      refine takeF (i := 4) (v := undef) rfl (by kernel_rfl) (fun _ _ _ h => h) (Or.inr ⟨by kernel_rfl, rfl⟩) (by assumption) ?_; (try simp only [Act.put, List.getElem_toArray, List.getElem_cons_succ, List.getElem_cons_zero, List.setIfInBounds_toArray, List.set_cons_zero, List.set_cons_succ])
      refine takeF (i := 5) (v := undef) rfl (by kernel_rfl) (fun _ _ _ h => h) (Or.inr ⟨by kernel_rfl, rfl⟩) (by assumption) ?_; (try simp only [Act.put, List.getElem_toArray, List.getElem_cons_succ, List.getElem_cons_zero, List.setIfInBounds_toArray, List.set_cons_zero, List.set_cons_succ])
      refine takeF (i := 6) (v := undef) rfl (by kernel_rfl) (fun _ _ _ h => h) (Or.inr ⟨by kernel_rfl, rfl⟩) (by assumption) ?_; (try simp only [Act.put, List.getElem_toArray, List.getElem_cons_succ, List.getElem_cons_zero, List.setIfInBounds_toArray, List.set_cons_zero, List.set_cons_succ])
      refine takeF (i := 7) (v := undef) rfl (by kernel_rfl) (fun _ _ _ h => h) (Or.inr ⟨by kernel_rfl, rfl⟩) (by assumption) ?_; (try simp only [Act.put, List.getElem_toArray, List.getElem_cons_succ, List.getElem_cons_zero, List.setIfInBounds_toArray, List.set_cons_zero, List.set_cons_succ])
      refine takeF (i := 8) (v := undef) rfl (by kernel_rfl) (fun _ _ _ h => h) (Or.inr ⟨by kernel_rfl, rfl⟩) (by assumption) ?_; (try simp only [Act.put, List.getElem_toArray, List.getElem_cons_succ, List.getElem_cons_zero, List.setIfInBounds_toArray, List.set_cons_zero, List.set_cons_succ])
      refine takeF (i := 9) (v := undef) rfl (by kernel_rfl) (fun _ _ _ h => h) (Or.inr ⟨by kernel_rfl, rfl⟩) (by assumption) ?_; (try simp only [Act.put, List.getElem_toArray, List.getElem_cons_succ, List.getElem_cons_zero, List.setIfInBounds_toArray, List.set_cons_zero, List.set_cons_succ])
      refine takeF (i := 10) (v := ?_) rfl (by kernel_rfl) (fun _ _ _ h => h) (Or.inl ⟨by kernel_rfl, ?_⟩) (by assumption) ?_; rotate_left; (focus (intro w _; go_simp; (try with_reducible rfl); done)); (try simp only [Act.put, List.getElem_toArray, List.getElem_cons_succ, List.getElem_cons_zero, List.setIfInBounds_toArray, List.set_cons_zero, List.set_cons_succ])
      refine takeF (i := 11) (v := ?_) rfl (by kernel_rfl) (fun _ _ _ h => h) (Or.inl ⟨by kernel_rfl, ?_⟩) (by assumption) ?_; rotate_left; (focus (intro w _; go_simp; (try with_reducible rfl); done)); (try simp only [Act.put, List.getElem_toArray, List.getElem_cons_succ, List.getElem_cons_zero, List.setIfInBounds_toArray, List.set_cons_zero, List.set_cons_succ])
      refine doneS (by kernel_rfl) ?_ _
      dsimp only [NoP]
      clear hHeld0
      have hs1 := blk_set (block_up H4.out.2.1 HD0.out) 0 (.slice none 0 0)
      have hs2 := blk_set (blk_far (block_up H4.out.2.2.1 HD0.out) (p := ⟨W.heap.size + 1, 0, none⟩) (by simp) (.slice none 0 0)) 0 (.int .i64 4)
      have hs1' := blk_far hs1 (p := ⟨W.heap.size + 1 + 1, 0, none⟩) (by simp) (.int .i64 4)
      have HR := Lib.hid (And.intro (cell_block hs1' 0) (And.intro (cell_block hs2 0) (HRes.out _ (HSet.out (.slice none 0 0) (.int .i64 4) W5 HD0.out))))
      have e1 := cell_block (block_up H4.out.2.1 HD0.out) 0
      have e2 := cell_block (block_up H4.out.2.2.1 HD0.out) 0
      have f1 := free_block (block_up H4.out.2.1 HD0.out)
      have f2 := free_block (block_up H4.out.2.2.1 HD0.out)
      clear hs1 hs2 hs1'
      go_wp2
      exact ⟨_, read_res rfl rfl HR.out.1 HR.out.2.1, _, rfl, ⟨rfl, .inl ⟨rfl, rfl⟩⟩, HR.out.2.2⟩
    · have k1 : decide (at_ < 0) = false := decide_eq_false c1
      by_cases c2 : (d.sure.length : Int) ≤ at_
      · obtain ⟨rfl, rfl⟩ := HEV.out.2.1 rfl (.inr c2)
        have k2 : decide ((d.sure.length : Int) ≤ at_) = true := decide_eq_true c2
        go_wp2_with fail
        refine wp_noP ?_
        refine beginS (S := fun W' => W'.cell? ⟨W.heap.size, 0, none⟩ = some (.int .i64 at_) ∧ W'.cell? ⟨g, 1, none⟩ = some (.slice As d.sure.length ccs)) [] (by kernel_rfl) ⟨hb0, hcs⟩ (fun hHeld0 => ?_)
        have HD0 := Lib.hid hd0
        generalize (World.drew W4) = W5 at *
        clear hb0 hd0 hcs
        refine takeH (i := 0) (v := ?_) rfl (by kernel_rfl) (fun _ _ _ h => h) (Or.inl ⟨by kernel_rfl, ?_⟩) (by assumption) ?_; rotate_left; (focus (intro w hSw; (try dsimp only at hSw); go_simp; (try with_reducible rfl); done)); (try simp only [Act.put, List.getElem_toArray, List.getElem_cons_succ, List.getElem_cons_zero, List.setIfInBounds_toArray, List.set_cons_zero, List.set_cons_succ])
        refine takeF (i := 1) (v := ?_) rfl (by kernel_rfl) (fun _ _ _ h => h) (Or.inl ⟨by kernel_rfl, ?_⟩) (by assumption) ?_; rotate_left; (focus (intro w _; go_simp; (try with_reducible rfl); done)); (try simp only [Act.put, List.getElem_toArray, List.getElem_cons_succ, List.getElem_cons_zero, List.setIfInBounds_toArray, List.set_cons_zero, List.set_cons_succ])
        refine takeF (i := 2) (v := ?_) rfl (by kernel_rfl) (fun _ _ _ h => h) (Or.inl ⟨by kernel_rfl, ?_⟩) (by assumption) ?_; rotate_left; (focus (intro w _; go_simp; (try with_reducible rfl); done)); (try simp only [Act.put, List.getElem_toArray, List.getElem_cons_succ, List.getElem_cons_zero, List.setIfInBounds_toArray, List.set_cons_zero, List.set_cons_succ])
        refine takeH (i := 3) (v := ?_) rfl (by kernel_rfl) (fun _ _ _ h => h) (Or.inl ⟨by kernel_rfl, ?_⟩) (by assumption) ?_; rotate_left; (focus (intro w hSw; (try dsimp only at hSw); go_simp; (try with_reducible rfl); done)); (try simp only [Act.put, List.getElem_toArray, List.getElem_cons_succ, List.getElem_cons_zero, List.setIfInBounds_toArray, List.set_cons_zero, List.set_cons_succ])
        refine takeF (i := 4) (v := ?_) rfl (by kernel_rfl) (fun _ _ _ h => h) (Or.inl ⟨by kernel_rfl, ?_⟩) (by assumption) ?_; rotate_left; (focus (intro w _; go_simp; (try with_reducible rfl); done)); (try simp only [Act.put, List.getElem_toArray, List.getElem_cons_succ, List.getElem_cons_zero, List.setIfInBounds_toArray, List.set_cons_zero, List.set_cons_succ])
        refine takeF (i := 5) (v := ?_) rfl (by kernel_rfl) (fun _ _ _ h => h) (Or.inl ⟨by kernel_rfl, ?_⟩) (by assumption) ?_; rotate_left; (focus (intro w _; go_simp; (try with_reducible rfl); done)); (try simp only [Act.put, List.getElem_toArray, List.getElem_cons_succ, List.getElem_cons_zero, List.setIfInBounds_toArray, List.set_cons_zero, List.set_cons_succ])
        refine takeF (i := 6) (v := ?_) rfl (by kernel_rfl) (fun _ _ _ h => h) (Or.inl ⟨by kernel_rfl, ?_⟩) (by assumption) ?_; rotate_left; (focus (intro w _; go_simp; (try with_reducible rfl); done)); (try simp only [Act.put, List.getElem_toArray, List.getElem_cons_succ, List.getElem_cons_zero, List.setIfInBounds_toArray, List.set_cons_zero, List.set_cons_succ])
        refine takeH (i := 7) (v := ?_) rfl (by kernel_rfl) (fun _ _ _ h => h) (Or.inl ⟨by kernel_rfl, ?_⟩) (by assumption) ?_; rotate_left; (focus (intro w hSw; (try dsimp only at hSw); go_simp; (try with_reducible rfl); done)); (try simp only [Act.put, List.getElem_toArray, List.getElem_cons_succ, List.getElem_cons_zero, List.setIfInBounds_toArray, List.set_cons_zero, List.set_cons_succ])
        refine takeF (i := 8) (v := ?_) rfl (by kernel_rfl) (fun _ _ _ h => h) (Or.inl ⟨by kernel_rfl, ?_⟩) (by assumption) ?_; rotate_left; (focus (intro w _; go_simp; (try with_reducible rfl); done)); (try simp only [Act.put, List.getElem_toArray, List.getElem_cons_succ, List.getElem_cons_zero, List.setIfInBounds_toArray, List.set_cons_zero, List.set_cons_succ])
        refine takeF (i := 9) (v := ?_) rfl (by kernel_rfl) (fun _ _ _ h => h) (Or.inl ⟨by kernel_rfl, ?_⟩) (by assumption) ?_; rotate_left; (focus (intro w _; go_simp; (try with_reducible rfl); done)); (try simp only [Act.put, List.getElem_toArray, List.getElem_cons_succ, List.getElem_cons_zero, List.setIfInBounds_toArray, List.set_cons_zero, List.set_cons_succ])
        refine takeF (i := 10) (v := ?_) rfl (by kernel_rfl) (fun _ _ _ h => h) (Or.inl ⟨by kernel_rfl, ?_⟩) (by assumption) ?_; rotate_left; (focus (intro w _; go_simp; (try with_reducible rfl); done)); (try simp only [Act.put, List.getElem_toArray, List.getElem_cons_succ, List.getElem_cons_zero, List.setIfInBounds_toArray, List.set_cons_zero, List.set_cons_succ])
        refine takeF (i := 11) (v := ?_) rfl (by kernel_rfl) (fun _ _ _ h => h) (Or.inl ⟨by kernel_rfl, ?_⟩) (by assumption) ?_; rotate_left; (focus (intro w _; go_simp; (try with_reducible rfl); done)); (try simp only [Act.put, List.getElem_toArray, List.getElem_cons_succ, List.getElem_cons_zero, List.setIfInBounds_toArray, List.set_cons_zero, List.set_cons_succ])
        refine doneS (by kernel_rfl) ?_ _
        dsimp only [NoP]
        clear hHeld0
        have hs1 := blk_set (block_up H4.out.2.1 HD0.out) 0 (.slice none 0 0)
        have hs2 := blk_set (blk_far (block_up H4.out.2.2.1 HD0.out) (p := ⟨W.heap.size + 1, 0, none⟩) (by simp) (.slice none 0 0)) 0 (.int .i64 4)
        have hs1' := blk_far hs1 (p := ⟨W.heap.size + 1 + 1, 0, none⟩) (by simp) (.int .i64 4)
        have HR := Lib.hid (And.intro (cell_block hs1' 0) (And.intro (cell_block hs2 0) (HRes.out _ (HSet.out (.slice none 0 0) (.int .i64 4) W5 HD0.out))))
        have e1 := cell_block (block_up H4.out.2.1 HD0.out) 0
        have e2 := cell_block (block_up H4.out.2.2.1 HD0.out) 0
        have f1 := free_block (block_up H4.out.2.1 HD0.out)
        have f2 := free_block (block_up H4.out.2.2.1 HD0.out)
        clear hs1 hs2 hs1'
        go_wp2
        exact ⟨_, read_res rfl rfl HR.out.1 HR.out.2.1, _, rfl, ⟨rfl, .inl ⟨rfl, rfl⟩⟩, HR.out.2.2⟩
      · obtain ⟨rfl, hV⟩ := HEV.out.2.2 rfl (by omega)
        have HV := Lib.hid hV
        clear hV
        have k2 : decide ((d.sure.length : Int) ≤ at_) = false := decide_eq_false c2
        obtain ⟨a, rfl⟩ := Int.eq_ofNat_of_zero_le (by omega : 0 ≤ at_)
        have ha : a < d.sure.length := by omega
        go_wp2_with fail
        refine wp_noP ?_
        refine beginS (S := fun W' => W'.cell? ⟨W.heap.size, 0, none⟩ = some (.int .i64 (a : Nat)) ∧ W'.cell? ⟨g, 1, none⟩ = some (.slice As d.sure.length ccs)) [] (by kernel_rfl) ⟨hb0, hcs⟩ (fun hHeld0 => ?_)
        have HD0 := Lib.hid hd0
        have cw5 := cell_up cw hd0
        generalize (World.drew W4) = W5 at *
        clear hb0 hd0 hcs
        refine takeH (i := 0) (v := ?_) rfl (by kernel_rfl) (fun _ _ _ h => h) (Or.inl ⟨by kernel_rfl, ?_⟩) (by assumption) ?_; rotate_left; (focus (intro w hSw; (try dsimp only at hSw); go_simp; (try with_reducible rfl); done)); (try simp only [Act.put, List.getElem_toArray, List.getElem_cons_succ, List.getElem_cons_zero, List.setIfInBounds_toArray, List.set_cons_zero, List.set_cons_succ])
        refine takeF (i := 1) (v := ?_) rfl (by kernel_rfl) (fun _ _ _ h => h) (Or.inl ⟨by kernel_rfl, ?_⟩) (by assumption) ?_; rotate_left; (focus (intro w _; go_simp; (try with_reducible rfl); done)); (try simp only [Act.put, List.getElem_toArray, List.getElem_cons_succ, List.getElem_cons_zero, List.setIfInBounds_toArray, List.set_cons_zero, List.set_cons_succ])
        refine takeF (i := 2) (v := ?_) rfl (by kernel_rfl) (fun _ _ _ h => h) (Or.inl ⟨by kernel_rfl, ?_⟩) (by assumption) ?_; rotate_left; (focus (intro w _; go_simp; (try with_reducible rfl); done)); (try simp only [Act.put, List.getElem_toArray, List.getElem_cons_succ, List.getElem_cons_zero, List.setIfInBounds_toArray, List.set_cons_zero, List.set_cons_succ])
        refine takeH (i := 3) (v := ?_) rfl (by kernel_rfl) (fun _ _ _ h => h) (Or.inl ⟨by kernel_rfl, ?_⟩) (by assumption) ?_; rotate_left; (focus (intro w hSw; (try dsimp only at hSw); go_simp; (try with_reducible rfl); done)); (try simp only [Act.put, List.getElem_toArray, List.getElem_cons_succ, List.getElem_cons_zero, List.setIfInBounds_toArray, List.set_cons_zero, List.set_cons_succ])
        refine takeF (i := 4) (v := ?_) rfl (by kernel_rfl) (fun _ _ _ h => h) (Or.inl ⟨by kernel_rfl, ?_⟩) (by assumption) ?_; rotate_left; (focus (intro w _; go_simp; (try with_reducible rfl); done)); (try simp only [Act.put, List.getElem_toArray, List.getElem_cons_succ, List.getElem_cons_zero, List.setIfInBounds_toArray, List.set_cons_zero, List.set_cons_succ])
        refine takeF (i := 5) (v := ?_) rfl (by kernel_rfl) (fun _ _ _ h => h) (Or.inl ⟨by kernel_rfl, ?_⟩) (by assumption) ?_; rotate_left; (focus (intro w _; go_simp; (try with_reducible rfl); done)); (try simp only [Act.put, List.getElem_toArray, List.getElem_cons_succ, List.getElem_cons_zero, List.setIfInBounds_toArray, List.set_cons_zero, List.set_cons_succ])
        refine takeF (i := 6) (v := ?_) rfl (by kernel_rfl) (fun _ _ _ h => h) (Or.inl ⟨by kernel_rfl, ?_⟩) (by assumption) ?_; rotate_left; (focus (intro w _; go_simp; (try with_reducible rfl); done)); (try simp only [Act.put, List.getElem_toArray, List.getElem_cons_succ, List.getElem_cons_zero, List.setIfInBounds_toArray, List.set_cons_zero, List.set_cons_succ])
        refine takeH (i := 7) (v := ?_) rfl (by kernel_rfl) (fun _ _ _ h => h) (Or.inl ⟨by kernel_rfl, ?_⟩) (by assumption) ?_; rotate_left; (focus (intro w hSw; (try dsimp only at hSw); go_simp; (try with_reducible rfl); done)); (try simp only [Act.put, List.getElem_toArray, List.getElem_cons_succ, List.getElem_cons_zero, List.setIfInBounds_toArray, List.set_cons_zero, List.set_cons_succ])
        refine takeF (i := 8) (v := ?_) rfl (by kernel_rfl) (fun _ _ _ h => h) (Or.inl ⟨by kernel_rfl, ?_⟩) (by assumption) ?_; rotate_left; (focus (intro w _; go_simp; (try with_reducible rfl); done)); (try simp only [Act.put, List.getElem_toArray, List.getElem_cons_succ, List.getElem_cons_zero, List.setIfInBounds_toArray, List.set_cons_zero, List.set_cons_succ])
        refine takeF (i := 9) (v := ?_) rfl (by kernel_rfl) (fun _ _ _ h => h) (Or.inl ⟨by kernel_rfl, ?_⟩) (by assumption) ?_; rotate_left; (focus (intro w _; go_simp; (try with_reducible rfl); done)); (try simp only [Act.put, List.getElem_toArray, List.getElem_cons_succ, List.getElem_cons_zero, List.setIfInBounds_toArray, List.set_cons_zero, List.set_cons_succ])
        refine takeF (i := 10) (v := ?_) rfl (by kernel_rfl) (fun _ _ _ h => h) (Or.inl ⟨by kernel_rfl, ?_⟩) (by assumption) ?_; rotate_left; (focus (intro w _; go_simp; (try with_reducible rfl); done)); (try simp only [Act.put, List.getElem_toArray, List.getElem_cons_succ, List.getElem_cons_zero, List.setIfInBounds_toArray, List.set_cons_zero, List.set_cons_succ])
        refine takeF (i := 11) (v := ?_) rfl (by kernel_rfl) (fun _ _ _ h => h) (Or.inl ⟨by kernel_rfl, ?_⟩) (by assumption) ?_; rotate_left; (focus (intro w _; go_simp; (try with_reducible rfl); done)); (try simp only [Act.put, List.getElem_toArray, List.getElem_cons_succ, List.getElem_cons_zero, List.setIfInBounds_toArray, List.set_cons_zero, List.set_cons_succ])
        refine doneS (by kernel_rfl) ?_ _
        dsimp only [NoP]
        clear hHeld0
        obtain ⟨wv, hrow, hwl', hwe⟩ := H4.out.2.2.2.1.w
        rw [HSm.out.2.1] at hwl' hwe
        obtain ⟨Aw, cww, e, _, _, _, _⟩ := own_rd hrow
        subst e
        have hwvl : wv.length ≤ 1099511627776 := by omega
        have HW := Lib.hid (And.intro hrow (And.intro hwl' hwe))
        clear hrow hwl' hwe
        have HBw := Lib.hid (fun a len cap w => callsIn_wide.1 (bwd_in Fence.wide 8 trivial rfl a len cap w))
        go_wp2_with fail
        (with_reducible refine (HBw.out _ _ _ _).mono ?_); rintro e W6 ⟨rfl, hW6⟩
        have hq6 : W6.heap[W5.heap.size]? = some (.cells #[.slice Aw wv.length cww] 112 (0, 0)) := by rw [hW6]; exact alloc_at _ rfl
        have hb6 : Below W5.heap.size W5 W6 := by rw [hW6]; exact below_alloc1 _ _
        have hz6 : W6.heap.size = W5.heap.size + 1 := by rw [hW6]; unfold World.alloc; simp
        have HD6 := Lib.hid (And.intro hq6 (And.intro (below_up HD0.out hb6) hz6))
        clear hq6 hb6 hW6 cw5 cw cs hz6
        go_wp2_with fail
        have hsl : ∀ j, ∃ A' n' c', (wv.getD j (0, .slice none 0 0)).2 = .slice A' n' c' := fun j => by
          rw [List.getD_eq_getElem?_getD]
          by_cases hj : j < wv.length
          · rw [List.getElem?_eq_getElem hj]
            obtain ⟨A', c', e, _⟩ := own_rd (HW.out.2.2 j hj (by rw [← HW.out.2.1]; exact hj)).2
            exact ⟨A', _, c', e⟩
          · rw [List.getElem?_eq_none (by omega)]
            exact ⟨none, 0, 0, rfl⟩
        have hrd : ∀ j, BRd W6 (wv.getD j (0, .slice none 0 0)).2 (d.waits.getD j (0, [])).2 ∧ (wv.getD j (0, .slice none 0 0)).1 = (d.waits.getD j (0, [])).1 ∧ (d.waits.getD j (0, [])).2.length ≤ 256 := fun j => by
          rw [List.getD_eq_getElem?_getD, List.getD_eq_getElem?_getD]
          by_cases hj : j < wv.length
          · have hj2 : j < d.waits.length := by rw [← HW.out.2.1]; exact hj
            rw [List.getElem?_eq_getElem hj, List.getElem?_eq_getElem hj2]
            have hx := HW.out.2.2 j hj hj2
            exact ⟨brd_own (own_below hx.2 HD6.out.2.1), hx.1, by have := (h0.ok.wt _ (List.getElem_mem hj2)).2; simp only [Option.getD_some]; omega⟩
          · rw [List.getElem?_eq_none (by omega), List.getElem?_eq_none (by rw [← HW.out.2.1]; omega)]
            exact ⟨brd_nil _, rfl, by simp⟩
        have HSl := Lib.hid hsl
        have HRd := Lib.hid hrd
        clear hsl hrd
        have hq0 := block_up H4.out.1 HD6.out.2.1
        have hq1 := block_up H4.out.2.1 HD6.out.2.1
        have hq2 := block_up H4.out.2.2.1 HD6.out.2.1
        have HQ := Lib.hid (And.intro hq0 (And.intro hq1 hq2))
        have hlt0 : W.heap.size + 1 + 1 < W6.heap.size := (Array.getElem?_eq_some_iff.1 hq2).1
        have hcell6 := cell_block HD6.out.1 0
        clear hq0 hq1 hq2 e0 e1 e2 f1 f2 fz
        refine (wpIn_wide (n := 8)).1 ?_
        refine wpIn_rangeFunc_ownH (F := Fence.wide) rfl (by decide) (gf := 107) (lb := #[.pointer (some ⟨W5.heap.size, 0, none⟩)]) rfl trivial (enters_of Try.func107 (by kernel_rfl) rfl)
          (bwd_stops Fence.wide (8 - 1) trivial rfl (by decide) W5.heap.size W6.heap.size Aw cww wv hwvl W6 (by rw [HD6.out.2.2]; omega) (Nat.le_refl _) hcell6 (fun j hj => by
            have hx := HW.out
            obtain ⟨gw, o, e, _, ci⟩ := SRd.get (srd_own wc_len (by decide) hx.1) wc_len (by decide) hj
            subst e
            obtain ⟨_, c, e, _, _, _, hA⟩ := own_rd hx.1
            cases e
            obtain ⟨e1, _, e3⟩ := hA _ rfl
            simp only at e1
            subst e1
            have hlt := own_lt hx.1 gw (by rfl)
            refine ⟨gw, rfl, Nat.lt_of_lt_of_le hlt HD6.out.2.1.size, ?_, ?_⟩
            · have := cell_up (ci 0 (by decide)) HD6.out.2.1
              simpa [wc] using this
            · have := cell_up (ci 1 (by decide)) HD6.out.2.1
              simpa [wc] using this))
          belowK_t (belowK_b (Nat.le_refl _)) (Below.refl _ _) (fun _ => rfl)
          (fun pre Wx => (∀ j ∈ pre, (d.waits.getD j (0, [])).1 ≠ a) ∧ Below W6.heap.size W6 Wx)
          (fun c pre Wx => ((c = .ret ∧ ∃ ini j v, pre = ini ++ [j] ∧ (∀ i ∈ ini, (d.waits.getD i (0, [])).1 ≠ a) ∧ (d.waits.getD j (0, [])).1 = a ∧ Wx.heap[W.heap.size + 1]? = some (.cells #[v] 78 (0, 0)) ∧ Wx.heap[W.heap.size + 1 + 1]? = some (.cells #[.int .i64 0] 30 (0, 0)) ∧ Wx.ownsRow W6.heap.size 5 1 v (d.waits.getD j (0, [])).2.length (bv (d.waits.getD j (0, [])).2)) ∧ ∃ Wy, Below W6.heap.size W6 Wy ∧ Fr (fun k => k = W.heap.size + 1 ∨ k = W.heap.size + 1 + 1 ∨ W6.heap.size ≤ k) Wy Wx))
          ?hI ?hIx ⟨by simp, Below.refl _ _⟩
          (fun j a' Wx => ∃ Bx A' n' c', (wv.getD j (0, .slice none 0 0)).2 = .slice A' n' c' ∧ W6.heap.size ≤ Bx ∧ Wx.heap[Bx]? = some (.cells #[.int .i64 ((wv.getD j (0, .slice none 0 0)).1 : Nat), .slice A' n' c'] 139 (0, 0)) ∧ a' = { tmps := #[.pointer (some ⟨g, 0, none⟩), .int .i64 (a : Nat), undef, .pointer (some ⟨W.heap.size, 0, none⟩), .pointer (some ⟨W.heap.size + 1, 0, none⟩), .pointer (some ⟨W.heap.size + 1 + 1, 0, none⟩), undef, .pointer (some ⟨Bx, 0, none⟩), .bool false, .pointer (some ⟨g, 0, none⟩), .bool true, .bool false, .bool false, .pointer (some ⟨g, 0, none⟩), .bool false, .bool false, .int .i64 (a : Nat), .bool false, .bool false, .int .i64 (a : Nat), .pointer (some ⟨g, 0, none⟩), .pointer (some ⟨g, 0, none⟩), .pointer (some ⟨g, 1, none⟩), .slice As d.sure.length ccs, .int .i64 (d.sure.length : Nat), .bool false, .bool false, .pointer (some ⟨g, 0, none⟩), .pointer (some ⟨g, 0, none⟩), .pointer (some ⟨g, 2, none⟩), .slice Aw wv.length cww, .func (.func 107) #[] #[.pointer (some ⟨W5.heap.size, 0, none⟩)], .int .i64 (j : Nat), .agg #[.int .i64 ((wv.getD j (0, .slice none 0 0)).1 : Nat), .slice A' n' c'], undef, undef, undef, undef, undef, undef, undef, undef, undef, undef, undef, undef, undef, undef, undef], defers := [] })
          ?hAx ?assign ?body ?done ?stop
        case hI => exact OwnFrom.and (ownFrom_pure _ _) (ownFrom_below (Nat.le_refl _) (Nat.le_refl _))
        case hIx =>
          intro c s Wa Wb row hs hg hr
          obtain ⟨⟨h1, ini, j, v, h2, h3, h4, h5, h6, h7⟩, Wy, h8, h9⟩ := hs
          exact ⟨⟨h1, ini, j, v, h2, h3, h4, blk_grown h5 hg hr, blk_grown h6 hg hr, own_grown h7 hg hr⟩, Wy, h8, h9.grown hg (fun k e _ => .inr (.inr (hr k e).1))⟩
        case hAx =>
          intro j a' s Wa Wb row hs hg hr
          obtain ⟨Bx, A', n', c', h1, h2, h3, h4⟩ := hs
          exact ⟨Bx, A', n', c', h1, h2, blk_grown h3 hg hr, h4⟩
        case assign =>
          rintro l pre j Wx K ⟨hi, hB⟩ hK
          obtain ⟨A', n', c', e⟩ := HSl.out j
          unfold bwE
          rw [e]
          obtain ⟨p, hp⟩ : ∃ p, (wv.getD j (0, .slice none 0 0)).1 = p := ⟨_, rfl⟩
          rw [hp]
          have HP := Lib.hid hp
          clear hp
          gi_wp2
          exact hK _ _ ((KeepsOthers.alloc _ _).from _) ((Below.refl _ Wx).alloc hB.size _) ⟨hi, below_alloc hB _⟩ ⟨Wx.heap.size, A', n', c', e, hB.size, by rw [HP.out]; exact alloc_at _ rfl, by rw [HP.out]⟩
        case body =>
          rintro l pre j a' Wx hl ⟨rr, hrr⟩ ⟨hne, hB⟩ ⟨Bx, A', n', c', e, hBx, hq, rfl⟩ hlt
          obtain ⟨hbr, hp1, hl2⟩ := HRd.out j
          rw [e] at hbr
          rw [hp1] at hq ⊢
          obtain ⟨p, hp⟩ : ∃ p, (d.waits.getD j (0, [])).1 = p := ⟨_, rfl⟩
          obtain ⟨lo, hlo⟩ : ∃ lo, (d.waits.getD j (0, [])).2 = lo := ⟨_, rfl⟩
          rw [hp] at hq hp1 ⊢
          rw [hlo] at hbr hl2
          obtain ⟨x0, x1⟩ := cells2d hq
          have y0 := cell_block (block_up HQ.out.1 hB) 0
          simp only [List.getElem?_toArray, List.getElem?_cons_zero] at y0
          have HP := Lib.hid (And.intro hp hlo)
          have HCl := Lib.hid (bclone_ok (.slice A' n' c') lo Wx (hbr.below hB) (by omega))
          have HNe := Lib.hid hne
          have HBb := Lib.hid hB
          clear hp hlo hbr hp1 hq hrr hne hB
          by_cases hpa : p = a
          · subst hpa
            have kk : ((p : Int) == p) = true := by rw [beq_iff_eq]
            gi_wp2_with fail
            refine ⟨trivial, ?_⟩
            refine (CallsIn.inRound l (callsIn_wide.2 HCl.out)).mono ?_
            rintro e W8 ⟨v', rfl, ho, hb⟩
            have hbb := below_up HBb.out hb
            have q1 := block_up HQ.out.2.1 hbb
            have q2 := block_up HQ.out.2.2 hbb
            have hs1 := blk_set q1 0 v'
            have hs1' := blk_far hs1 (p := ⟨W.heap.size + 1 + 1, 0, none⟩) (by simp) (.int .i64 0)
            have hs2 := blk_set (blk_far q2 (p := ⟨W.heap.size + 1, 0, none⟩) (by simp) v') 0 (.int .i64 0)
            have hob := own_lower ho HBb.out.size
            have ho2 := own_set (own_set hob (p := ⟨W.heap.size + 1, 0, none⟩) (fun e => by have := own_base hob _ e; simp only at this; omega) v') (p := ⟨W.heap.size + 1 + 1, 0, none⟩) (fun e => by have := own_base hob _ e; simp only at this; omega) (.int .i64 0)
            have hfr := ((Fr.refl (fun k => k = W.heap.size + 1 ∨ k = W.heap.size + 1 + 1 ∨ W6.heap.size ≤ k) W8).set (p := ⟨W.heap.size + 1, 0, none⟩) (fun _ => .inl rfl) v').set (p := ⟨W.heap.size + 1 + 1, 0, none⟩) (fun _ => .inr (.inl rfl)) (.int .i64 0)
            have hkp := ((keeps_below W6.heap.size hb).trans ((KeepsOthers.setCell W8 ⟨W.heap.size + 1, 0, none⟩ v').from _)).trans ((KeepsOthers.setCell _ ⟨W.heap.size + 1 + 1, 0, none⟩ (.int .i64 0)).from _)
            have hs1'' : ((W8.setCell ⟨W.heap.size + 1, 0, none⟩ v').setCell ⟨W.heap.size + 1 + 1, 0, none⟩ (.int .i64 0)).heap[W.heap.size + 1]? = some (.cells #[v'] 78 (0, 0)) := by simpa using hs1'
            have hs2'' : ((W8.setCell ⟨W.heap.size + 1, 0, none⟩ v').setCell ⟨W.heap.size + 1 + 1, 0, none⟩ (.int .i64 0)).heap[W.heap.size + 1 + 1]? = some (.cells #[.int .i64 0] 30 (0, 0)) := by simpa using hs2
            have HEnd := Lib.hid (And.intro hkp (And.intro hs1'' (And.intro hs2'' (And.intro ho2 (And.intro hbb hfr)))))
            have c1 := cell_block q1 0
            have c2 := cell_block q2 0
            have g1 := free_block q1
            have g2 := free_block q2
            obtain ⟨Av, cv, ev, _⟩ := own_rd ho
            subst ev
            clear hbb q1 q2 hs1 hs1' hs2 hs1'' hs2'' hob ho2 hfr hkp ho hb
            gi_wp2
            exact ⟨HEnd.out.1, ⟨rfl, pre, j, _, rfl, HNe.out, HP.out.1, HEnd.out.2.1, HEnd.out.2.2.1, by rw [HP.out.2]; exact HEnd.out.2.2.2.1⟩, W8, HEnd.out.2.2.2.2.1, HEnd.out.2.2.2.2.2⟩
          · have kk : ((p : Int) == a) = false := by rw [beq_eq_false_iff_ne]; omega
            have kk2 : decide (p = a) = false := decide_eq_false hpa
            gi_wp2
            exact ⟨KeepsFrom.refl _ _, Below.refl _ _, ⟨fun i hi => (List.mem_append.1 hi).elim (HNe.out i) (fun h => by rw [List.mem_singleton.1 h, HP.out.1]; exact hpa), HBb.out⟩⟩
        case done =>
          rintro D ys Wx hD rfl ⟨hne, hB⟩ hK
          have HK := Lib.hid hK
          have HBb := Lib.hid hB
          have HNe := Lib.hid hne
          clear hK hB hne
          have hw0 : V = d.sure[a] := by
            have h1 := last_none (ws := d.waits) (a := a) (n := wv.length) HW.out.2.1 (f := bwd wv) (fun k => rfl) HNe.out
            have h2 := HV.out
            unfold rd at h2
            rw [show ((a : Nat) : Int).toNat = a from rfl, h1] at h2
            rw [h2, Option.getD_none, List.getD_eq_getElem?_getD, List.getElem?_eq_getElem ha]
            rfl
          have ha2 : a < (brk d).sure.length := by rw [HSm.out.1]; exact ha
          obtain ⟨gs, c, v0, e, z0, _, hv0⟩ := H4.out.2.2.2.1.s.at_ ha2
          simp only [HSm.out.1] at e hv0
          cases e
          have hl256 : d.sure[a].length = 256 := h0.ok.sec _ (List.getElem_mem ha)
          obtain ⟨ga, cc, ev, hcc⟩ := sown_at hv0 (by omega)
          rw [hl256] at ev hcc
          subst ev
          have HL256 := Lib.hid hl256
          clear hl256
          have hbx := below_up HD6.out.2.1 HBb.out
          have hd := below_drew1 (w := Wx)
          have hbd := below_up hbx hd
          have HX := Lib.hid (And.intro hbd (And.intro (block_up HK.out hd) (And.intro hw0 (And.intro hv0 (below_up HBb.out hd)))))
          have hx0 := cell_block (block_up H4.out.1 hbd) 0
          obtain ⟨_, hcs, _⟩ := H4.out.2.2.2.1.cell
          have hx1 := cell_up hcs hbd
          have hx2 := cell_up z0 hbd
          simp only [List.getElem?_toArray, List.getElem?_cons_zero] at hx0
          have HFin : Hid (∀ (Wz : World) (v : Value) (l : Oc), Fr (fun k => k = W.heap.size + 1 ∨ k = W.heap.size + 1 + 1) W4 Wz → Wz.heap[W.heap.size + 1]? = some (.cells #[v] 78 (0, 0)) → Wz.heap[W.heap.size + 1 + 1]? = some (.cells #[.int .i64 0] 30 (0, 0)) → Wz.heap[D]? = some (.deferred (some [])) → Wz.ownsRow W.heap.size 5 1 v l.length (bv l) →
              (Wz.putObj D (.deferred none)).cell? ⟨W.heap.size + 1, 0, none⟩ = some v ∧ (Wz.putObj D (.deferred none)).cell? ⟨W.heap.size + 1 + 1, 0, none⟩ = some (.int .i64 0) ∧ (Wz.putObj D (.deferred none)).ownsRow W.heap.size 5 1 v l.length (bv l) ∧ DTo L base N g (.slice (some ⟨gs, 0, none⟩) d.sure.length ccs) (.slice Aw wv.length cww) r (brk d) W (Wz.putObj D (.deferred none))) := Lib.hid (fun Wz v l hf q1 q2 hk ho =>
            ⟨cell_kept (cell_block q1 0) (grownBy_putObj' _ D _) (fun r e => by cases e; exact ⟨_, hk, rfl⟩), cell_kept (cell_block q2 0) (grownBy_putObj' _ D _) (fun r e => by cases e; exact ⟨_, hk, rfl⟩), ownsRow_putObj ho _ hk rfl, HRes.out _ (hf.grown (grownBy_putObj' _ D _) (fun k e hk => by cases e; have := HD6.out.2.1.size; omega))⟩)
          go_wp2_with fail
          refine wp_noP ?_
          refine beginS (S := fun W' => W'.cell? ⟨g, 1, none⟩ = some (.slice (some ⟨gs, 0, none⟩) d.sure.length ccs) ∧ W'.cell? ⟨W.heap.size, 0, none⟩ = some (.int .i64 (a : Nat)) ∧ W'.cell? ⟨gs, a, none⟩ = some (.slice (some ⟨ga, 0, none⟩) 256 cc)) [8, 9] (by kernel_rfl) ⟨hx1, hx0, hx2⟩ (fun hHeld0 => ?_)
          generalize (World.drew Wx) = W7 at *
          have HH0 := Lib.hid hHeld0
          clear hx0 hx1 hx2 hd hbd hbx hcs
          refine takeF (i := 0) (v := ?_) rfl (by kernel_rfl) (fun _ _ _ h => h) (Or.inl ⟨by kernel_rfl, ?_⟩) (by assumption) ?_; rotate_left; (focus (intro w _; go_simp; (try with_reducible rfl); done)); (try simp only [Act.put, List.getElem_toArray, List.getElem_cons_succ, List.getElem_cons_zero, List.setIfInBounds_toArray, List.set_cons_zero, List.set_cons_succ])
          refine takeF (i := 1) (v := ?_) rfl (by kernel_rfl) (fun _ _ _ h => h) (Or.inl ⟨by kernel_rfl, ?_⟩) (by assumption) ?_; rotate_left; (focus (intro w _; go_simp; (try with_reducible rfl); done)); (try simp only [Act.put, List.getElem_toArray, List.getElem_cons_succ, List.getElem_cons_zero, List.setIfInBounds_toArray, List.set_cons_zero, List.set_cons_succ])
          refine takeF (i := 2) (v := ?_) rfl (by kernel_rfl) (fun _ _ _ h => h) (Or.inl ⟨by kernel_rfl, ?_⟩) (by assumption) ?_; rotate_left; (focus (intro w _; go_simp; (try with_reducible rfl); done)); (try simp only [Act.put, List.getElem_toArray, List.getElem_cons_succ, List.getElem_cons_zero, List.setIfInBounds_toArray, List.set_cons_zero, List.set_cons_succ])
          refine takeH (i := 3) (v := ?_) rfl (by kernel_rfl) (fun _ _ _ h => h) (Or.inl ⟨by kernel_rfl, ?_⟩) (by assumption) ?_; rotate_left; (focus (intro w hSw; (try dsimp only at hSw); go_simp; (try with_reducible rfl); done)); (try simp only [Act.put, List.getElem_toArray, List.getElem_cons_succ, List.getElem_cons_zero, List.setIfInBounds_toArray, List.set_cons_zero, List.set_cons_succ])
          refine takeH (i := 4) (v := ?_) rfl (by kernel_rfl) (fun _ _ _ h => h) (Or.inl ⟨by kernel_rfl, ?_⟩) (by assumption) ?_; rotate_left; (focus (intro w hSw; (try dsimp only at hSw); go_simp; (try with_reducible rfl); done)); (try simp only [Act.put, List.getElem_toArray, List.getElem_cons_succ, List.getElem_cons_zero, List.setIfInBounds_toArray, List.set_cons_zero, List.set_cons_succ])
          refine takeF (i := 5) (v := ?_) rfl (by kernel_rfl) (fun _ _ _ h => h) (Or.inl ⟨by kernel_rfl, ?_⟩) (by assumption) ?_; rotate_left; (focus (intro w _; go_simp; (try with_reducible rfl); done)); (try simp only [Act.put, List.getElem_toArray, List.getElem_cons_succ, List.getElem_cons_zero, List.setIfInBounds_toArray, List.set_cons_zero, List.set_cons_succ])
          refine takeH (i := 6) (v := ?_) rfl (by kernel_rfl) (fun _ _ _ h => h) (Or.inl ⟨by kernel_rfl, ?_⟩) (by assumption) ?_; rotate_left; (focus (intro w hSw; (try dsimp only at hSw); go_simp; (try with_reducible rfl); done)); (try simp only [Act.put, List.getElem_toArray, List.getElem_cons_succ, List.getElem_cons_zero, List.setIfInBounds_toArray, List.set_cons_zero, List.set_cons_succ])
          clear hHeld0
          have HCl := Lib.hid (bclone_ok (.slice (some ⟨ga, 0, none⟩) 256 cc) d.sure[a] W7 (brd_own (own_below HX.out.2.2.2.1 HX.out.1)) (by have := HL256.out; omega))
          refine readyS (rs := [7]) (by kernel_rfl) (by simp) ?_
          refine ReadyS.consH rfl (fun K hK => ?_) ReadyS.nil
          (try simp only [List.getElem_toArray, List.getElem_cons_succ, List.getElem_cons_zero])
          go_simp
          (with_reducible refine HCl.out.mono ?_); rintro e W8 ⟨v', rfl, ho, hb⟩
          have hb48 := below_up HX.out.1 hb
          have q1 := block_up H4.out.2.1 hb48
          have q2 := block_up H4.out.2.2.1 hb48
          have hHH := HH0.out
          refine hK.out _ _ (⟨cell_up hHH.1 hb, cell_up hHH.2.1 hb, cell_up hHH.2.2 hb⟩) (fun hHeld => ?_)
          clear hK K
          (try simp only [Act.put, List.getElem_toArray, List.getElem_cons_succ, List.getElem_cons_zero, List.setIfInBounds_toArray, List.set_cons_zero, List.set_cons_succ])
          clear hHeld hHH
          obtain ⟨Av, cv, ev, _⟩ := own_rd ho
          subst ev
          have hs1 := blk_set q1 0 (.slice Av d.sure[a].length cv)
          have hs1' := blk_far hs1 (p := ⟨W.heap.size + 1 + 1, 0, none⟩) (by simp) (.int .i64 0)
          have hs2 := blk_set (blk_far q2 (p := ⟨W.heap.size + 1, 0, none⟩) (by simp) (.slice Av d.sure[a].length cv)) 0 (.int .i64 0)
          have hw67 : W6.heap.size ≤ W7.heap.size := HX.out.2.2.2.2.size
          have hob := own_lower ho (show W.heap.size ≤ W7.heap.size by omega)
          have ho2 := own_set (own_set hob (p := ⟨W.heap.size + 1, 0, none⟩) (fun e => by have := own_base ho _ e; simp only at this; omega) (.slice Av d.sure[a].length cv)) (p := ⟨W.heap.size + 1 + 1, 0, none⟩) (fun e => by have := own_base ho _ e; simp only at this; omega) (.int .i64 0)
          have hkD := blk_far (blk_far (block_up HX.out.2.1 hb) (p := ⟨W.heap.size + 1, 0, none⟩) (by simp; omega) (.slice Av d.sure[a].length cv)) (p := ⟨W.heap.size + 1 + 1, 0, none⟩) (by simp; omega) (.int .i64 0)
          have hfin := HFin.out _ (.slice Av d.sure[a].length cv) d.sure[a] (HSet.out (.slice Av d.sure[a].length cv) (.int .i64 0) W8 hb48) (by simpa using hs1') (by simpa using hs2) hkD ho2
          have HE := Lib.hid (And.intro hfin hkD)
          have e1 := cell_block q1 0
          have e2 := cell_block q2 0
          have g1 := free_block q1
          have g2 := free_block q2
          simp only [List.getElem?_toArray, List.getElem?_cons_zero] at e1 e2
          clear hs1 hs1' hs2 hw67 hob ho2 hkD hfin ho hb48 q1 q2
          refine readyS (rs := [8]) (by kernel_rfl) (by simp) ?_
          refine ReadyS.consP rfl (by kernel_rfl) (fun K hK => ?_) ReadyS.nil
          (try simp only [List.getElem_toArray, List.getElem_cons_succ, List.getElem_cons_zero])
          go_simp
          refine hK.out _ _ ?_
          clear hK K
          (try simp only [Act.put, List.getElem_toArray, List.getElem_cons_succ, List.getElem_cons_zero, List.setIfInBounds_toArray, List.set_cons_zero, List.set_cons_succ])
          refine readyS (rs := [9]) (by kernel_rfl) (by simp) ?_
          refine ReadyS.consP rfl (by kernel_rfl) (fun K hK => ?_) ReadyS.nil
          (try simp only [List.getElem_toArray, List.getElem_cons_succ, List.getElem_cons_zero])
          go_simp
          refine hK.out _ _ ?_
          clear hK K
          (try simp only [Act.put, List.getElem_toArray, List.getElem_cons_succ, List.getElem_cons_zero, List.setIfInBounds_toArray, List.set_cons_zero, List.set_cons_succ])
          refine doneS (by kernel_rfl) ?_ _
          dsimp only [NoP]
          go_wp2
          refine ⟨by simp, .inl ⟨_, _, rfl, run_takeDeferred HE.out.2, ?_⟩⟩
          exact ⟨_, read_res rfl rfl HE.out.1.1 HE.out.1.2.1, _, rfl, by rw [HX.out.2.2.1]; exact HE.out.1.2.2.1, HE.out.1.2.2.2⟩
        case stop =>
          rintro D c pre Wx hD ⟨k, hk, hpre⟩ ⟨⟨rfl, ini, j, v, hp, hne, hja, q1, q2, ho⟩, Wy, hBy, hFr⟩ hK
          have HFin : Hid (∀ (Wz : World) (v : Value) (l : Oc), Fr (fun k => k = W.heap.size + 1 ∨ k = W.heap.size + 1 + 1) W4 Wz → Wz.heap[W.heap.size + 1]? = some (.cells #[v] 78 (0, 0)) → Wz.heap[W.heap.size + 1 + 1]? = some (.cells #[.int .i64 0] 30 (0, 0)) → Wz.heap[D]? = some (.deferred (some [])) → Wz.ownsRow W.heap.size 5 1 v l.length (bv l) →
              (Wz.putObj D (.deferred none)).cell? ⟨W.heap.size + 1, 0, none⟩ = some v ∧ (Wz.putObj D (.deferred none)).cell? ⟨W.heap.size + 1 + 1, 0, none⟩ = some (.int .i64 0) ∧ (Wz.putObj D (.deferred none)).ownsRow W.heap.size 5 1 v l.length (bv l) ∧ DTo L base N g (.slice As d.sure.length ccs) (.slice Aw wv.length cww) r (brk d) W (Wz.putObj D (.deferred none))) := Lib.hid (fun Wz v l hf q1 q2 hk ho =>
            ⟨cell_kept (cell_block q1 0) (grownBy_putObj' _ D _) (fun r e => by cases e; exact ⟨_, hk, rfl⟩), cell_kept (cell_block q2 0) (grownBy_putObj' _ D _) (fun r e => by cases e; exact ⟨_, hk, rfl⟩), ownsRow_putObj ho _ hk rfl, HRes.out _ (hf.grown (grownBy_putObj' _ D _) (fun k e hk => by cases e; have := HD6.out.2.1.size; omega))⟩)
          have hVV : V = (d.waits.getD j (0, [])).2 := by
            have h1 := last_some (ws := d.waits) (a := a) (n := wv.length) HW.out.2.1 hk (f := bwd wv) (fun k => rfl) (hp.symm.trans hpre) hne hja
            have h2 := HV.out
            unfold rd at h2
            rw [show ((a : Nat) : Int).toNat = a from rfl, h1] at h2
            exact h2
          have hf4 : Fr (fun k => k = W.heap.size + 1 ∨ k = W.heap.size + 1 + 1) W4 Wx := (Fr.of_below (below_up HD6.out.2.1 hBy)).trans hFr (fun k hk e => by
            rcases e with e | e | e
            · exact .inl e
            · exact .inr e
            · have := HD6.out.2.1.size; omega)
          have hfin := HFin.out Wx v _ hf4 q1 q2 hK (own_lower ho (show W.heap.size ≤ W6.heap.size by omega))
          have HE := Lib.hid (And.intro hfin (And.intro hK hVV))
          clear hp hne hja q1 q2 ho hBy hFr hK hfin hf4 hVV
          gi_wp2
          refine ⟨by simp, .inl ⟨_, _, rfl, run_takeDeferred HE.out.2.1, ?_⟩⟩
          exact ⟨_, read_res rfl rfl HE.out.1.1 HE.out.1.2.1, _, rfl, by rw [HE.out.2.2]; exact HE.out.1.2.2.1, HE.out.1.2.2.2⟩
end
end Go.Proofs.Ythpnlgdcijmocaa.Dk
