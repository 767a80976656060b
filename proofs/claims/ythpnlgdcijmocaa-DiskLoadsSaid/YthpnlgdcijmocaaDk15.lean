/- The walks over a disk that nobody made, and over croftlaw14.DiskNobody. -/
import Derived.Test.YthpnlgdcijmocaaDk13
namespace Go.Proofs.Ythpnlgdcijmocaa.Dk
open Go.RowKit Rg Mp
set_option linter.unusedVariables false
set_option linter.unusedSimpArgs false
def NB (W : World) (v : Value) : Prop := v = .pointer none ∨ ∃ g, v = .pointer (some ⟨g, 0, none⟩) ∧ W.cell? ⟨g, 0, none⟩ = some (.bool false)
theorem NB.up {W W' : World} {v : Value} (h : NB W v) (hb : Below W.heap.size W W') : NB W' v := by
  rcases h with h | ⟨g, h, hc⟩
  · exact .inl h
  · exact .inr ⟨g, h, cell_up hc hb⟩
section
variable {W : World} {v : Value}
theorem nb_is (h : NB W v) : Calls Try.prog 72 #[v] W fun e w' => e = .returned (.bool false) ∧ W = w' := by
  rcases h with rfl | ⟨g, rfl, hc⟩
  · go_enter Try.func72, Try.ntmps72
    go_wp2
    go_ret
    exact ⟨rfl, rfl⟩
  · go_enter Try.func72, Try.ntmps72
    go_wp2
    go_ret
    exact ⟨rfl, rfl⟩
theorem nb_count (h : NB W v) : Calls Try.prog 53 #[v] W fun e w' => e = .returned (.int .i64 0) ∧ W = w' := by
  have HI := Lib.hid (nb_is h)
  clear h
  go_enter Try.func53, Try.ntmps53
  go_wp2_with fail
  (with_reducible refine HI.out.mono ?_); rintro e w1 ⟨rfl, rfl⟩
  go_wp2
  go_ret
  exact ⟨rfl, rfl⟩
theorem nb_waits (h : NB W v) : Calls Try.prog 43 #[v] W fun e w' => e = .returned (.int .i64 0) ∧ W = w' := by
  have HI := Lib.hid (nb_is h)
  clear h
  go_enter Try.func43, Try.ntmps43
  go_wp2_with fail
  (with_reducible refine HI.out.mono ?_); rintro e w1 ⟨rfl, rfl⟩
  go_wp2
  go_ret
  exact ⟨rfl, rfl⟩
theorem nb_odd (h : NB W v) : Calls Try.prog 45 #[v] W fun e w' => e = .returned (.slice none 0 0) ∧ W = w' := by
  have HI := Lib.hid (nb_is h)
  clear h
  go_enter Try.func45, Try.ntmps45
  go_wp2_with fail
  (with_reducible refine HI.out.mono ?_); rintro e w1 ⟨rfl, rfl⟩
  go_wp2
  go_ret
  exact ⟨rfl, rfl⟩
theorem nb_flush (h : NB W v) : Calls Try.prog 39 #[v] W fun e w' => e = .returned (.int .i64 9) ∧ W = w' := by
  have HI := Lib.hid (nb_is h)
  clear h
  go_enter Try.func39, Try.ntmps39
  go_wp2_with fail
  (with_reducible refine HI.out.mono ?_); rintro e w1 ⟨rfl, rfl⟩
  go_wp2
  go_ret
  exact ⟨rfl, rfl⟩
theorem nb_write (h : NB W v) (a b : Value) : Calls Try.prog 37 #[v, a, b] W fun e w' => e = .returned (.int .i64 9) ∧ W = w' := by
  have HI := Lib.hid (nb_is h)
  clear h
  go_enter Try.func37, Try.ntmps37
  go_wp2_with fail
  (with_reducible refine HI.out.mono ?_); rintro e w1 ⟨rfl, rfl⟩
  go_wp2
  go_ret
  exact ⟨rfl, rfl⟩
theorem nb_cut (h : NB W v) (a b : Value) : Calls Try.prog 40 #[v, a, b] W fun e w' => e = .returned (.tuple #[]) ∧ W = w' := by
  have HI := Lib.hid (nb_is h)
  clear h
  go_enter Try.func40, Try.ntmps40
  go_wp2_with fail
  (with_reducible refine HI.out.mono ?_); rintro e w1 ⟨rfl, rfl⟩
  go_wp2
  (try simp only [Exit.inBlock, Exit.then])
  refine bodyPost_ret (results_none rfl _ _ _) rfl ?_
  exact ⟨rfl, rfl⟩
theorem nb_power (h : NB W v) (a : Value) : Calls Try.prog 42 #[v, a] W fun e w' => e = .returned (.tuple #[]) ∧ W = w' := by
  have HI := Lib.hid (nb_is h)
  clear h
  go_enter Try.func42, Try.ntmps42
  go_wp2_with fail
  (with_reducible refine HI.out.mono ?_); rintro e w1 ⟨rfl, rfl⟩
  go_wp2
  (try simp only [Exit.inBlock, Exit.then])
  refine bodyPost_ret (results_none rfl _ _ _) rfl ?_
  exact ⟨rfl, rfl⟩
theorem nb_fail (h : NB W v) (a : Value) : Calls Try.prog 54 #[v, a] W fun e w' => e = .returned (.tuple #[]) ∧ W = w' := by
  have HI := Lib.hid (nb_is h)
  clear h
  go_enter Try.func54, Try.ntmps54
  go_wp2_with fail
  (with_reducible refine HI.out.mono ?_); rintro e w1 ⟨rfl, rfl⟩
  go_wp2
  go_end0
  exact ⟨rfl, rfl⟩
theorem nb_load (h : NB W v) (a : Value) : Calls Try.prog 44 #[v, a] W fun e w' => e = .returned (.tuple #[]) ∧ W = w' := by
  have HI := Lib.hid (nb_is h)
  clear h
  go_enter Try.func44, Try.ntmps44
  go_wp2_with fail
  (with_reducible refine HI.out.mono ?_); rintro e w1 ⟨rfl, rfl⟩
  go_wp2
  (try simp only [Exit.inBlock, Exit.then])
  refine bodyPost_ret (results_none rfl _ _ _) rfl ?_
  exact ⟨rfl, rfl⟩
set_option maxHeartbeats 1000000 in
theorem nb_read (h : NB W v) (at_ : Int) : Calls Try.prog 41 #[v, .int .i64 at_] W fun e w' => e = .returned (.tuple #[.slice none 0 0, .int .i64 9]) ∧ Below W.heap.size W w' := by
  have s1 := fun (W : World) (o : Obj) => (show (W.alloc o).heap.size = W.heap.size + 1 by unfold World.alloc; simp)
  have hb1 := below_alloc1 W (.cells #[.int .i64 at_] 3)
  obtain ⟨W1, hW1⟩ : ∃ W1, W.alloc (.cells #[.int .i64 at_] 3) = W1 := ⟨_, rfl⟩
  have z1 := s1 W (.cells #[.int .i64 at_] 3)
  rw [hW1] at hb1 z1
  have hb2 := below_alloc hb1 (.cells #[.slice none 0 0] 78)
  have q2 := alloc_at (w := W1) (.cells #[.slice none 0 0] 78) z1.symm
  obtain ⟨W2, hW2⟩ : ∃ W2, W1.alloc (.cells #[.slice none 0 0] 78) = W2 := ⟨_, rfl⟩
  have z2 := s1 W1 (.cells #[.slice none 0 0] 78)
  rw [hW2] at hb2 q2 z2
  rw [z1] at z2
  have hb3 := below_alloc hb2 (.cells #[.int .i64 0] 30)
  have q3 := alloc_at (w := W2) (.cells #[.int .i64 0] 30) z2.symm
  have q23 := alloc_old q2 (.cells #[.int .i64 0] 30)
  obtain ⟨W3, hW3⟩ : ∃ W3, W2.alloc (.cells #[.int .i64 0] 30) = W3 := ⟨_, rfl⟩
  rw [hW3] at hb3 q3 q23
  have HIs := Lib.hid (nb_is (h.up hb3))
  have H3 := Lib.hid (And.intro hb3 (And.intro q23 q3))
  subst hW1 hW2 hW3
  clear hb1 z1 hb2 q2 z2 hb3 q3 q23 h s1
  refine (callsIn_wide (n := 8)).1 ?_
  refine callsIn_of_wp_marks Try.func41 rfl trivial ?_ rfl
  refine wpIn_wide.2 ?_
  simp only [Try.ntmps41, List.size_toArray, List.length_cons, List.length_nil, Nat.reduceAdd, Nat.reduceSub, Array.replicate_succ, Array.replicate_zero, List.push_toArray, List.append_toArray, List.nil_append, List.cons_append]
  go_wp2_with fail
  generalize (((W.alloc _).alloc _).alloc _) = W3 at *
  (with_reducible refine HIs.out.mono ?_); rintro e w1 ⟨rfl, rfl⟩
  have e1 := cell_block H3.out.2.1 0
  have e2 := cell_block H3.out.2.2 0
  have f1 := free_block H3.out.2.1
  have f2 := free_block H3.out.2.2
  simp only [List.getElem?_toArray, List.getElem?_cons_zero] at e1 e2
  have hs1 := blk_set H3.out.2.1 0 (.slice none 0 0)
  have hs2 := blk_set (blk_far H3.out.2.2 (p := ⟨W.heap.size + 1, 0, none⟩) (by simp) (.slice none 0 0)) 0 (.int .i64 9)
  have hs1' := blk_far hs1 (p := ⟨W.heap.size + 1 + 1, 0, none⟩) (by simp) (.int .i64 9)
  have c1 := cell_block hs1' 0
  have c2 := cell_block hs2 0
  have HR := Lib.hid (And.intro c1 (And.intro c2 ((H3.out.1.setCell (p := ⟨W.heap.size + 1, 0, none⟩) (by simp) (.slice none 0 0)).setCell (p := ⟨W.heap.size + 1 + 1, 0, none⟩) (by simp; omega) (.int .i64 9))))
  clear hs1 hs2 hs1' c1 c2
  go_wp2
  exact ⟨_, read_res rfl rfl HR.out.1 HR.out.2.1, rfl, HR.out.2.2⟩
end
end Go.Proofs.Ythpnlgdcijmocaa.Dk
