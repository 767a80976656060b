/- A rising list beside a heap, plainly; the walk over croftlaw21.alive. -/
import Derived.Test.YtkjapmafipnmpaaH8
namespace Go.Proofs.Ytkjapmafipnmpaa.Hp
open Go.RowKit Lt Rg HpL
set_option linter.unusedVariables false
set_option linter.unusedSimpArgs false
theorem head_eq {l : List ItS} {a : ItS} {t : List ItS} (hp : (a :: t).Perm l) (hr : Ris ItS.Lt (a :: t)) (hh : Hp ItS.Lt l) (h0 : 0 < l.length) : a = l[0] := by
  have h1 := hp_least (lt := ItS.Lt) ItS.Lt.irr ItS.Lt.letr hh h0 (hp.mem_iff.1 List.mem_cons_self)
  have h2 := ris_head (lt := ItS.Lt) hr (hp.mem_iff.2 (List.getElem_mem h0)) ItS.Lt.irr
  rcases ItS.Lt.tri a l[0] with h | h | h
  · exact absurd h h1
  · exact h
  · exact absurd h h2
theorem tail_perm {l l' : List ItS} {a : ItS} {t : List ItS} (hp : (a :: t).Perm l) (hr : Ris ItS.Lt (a :: t)) (hh : Hp ItS.Lt l) (h0 : 0 < l.length) (hl : l.Perm (l[0] :: l')) : t.Perm l' := by
  have e := head_eq hp hr hh h0
  rw [← e] at hl
  exact (hp.trans hl).cons_inv
theorem ris_tail {a : ItS} {t : List ItS} (h : Ris ItS.Lt (a :: t)) : Ris ItS.Lt t := (List.pairwise_cons.1 h).2
theorem hp_nil : Hp ItS.Lt ([] : List ItS) := fun j h => absurd h (Nat.not_lt_zero j)
theorem alive_head {l1 l2 : List ItS} (h1 : l1.Perm [⟨0, 0, 0, 5⟩]) (h2 : l2.Perm (⟨0, 0, 0, 3⟩ :: l1)) (hh : Hp ItS.Lt l2) (h0 : 0 < l2.length) : l2[0] = ⟨0, 0, 0, 3⟩ := by
  have e := List.perm_singleton.1 h1
  rw [e] at h2
  exact (head_eq h2.symm (by unfold Ris; rw [List.pairwise_cons, List.pairwise_cons]; simp [ItS.Lt]) hh h0).symm
set_option maxHeartbeats 4000000 in
set_option maxRecDepth 100000 in
theorem alive_ok (W : World) : Calls Try.prog 15 #[] W fun e w' => e = .returned (.bool true) ∧ Below W.heap.size W w' := by
  have q1 := alloc_at (w := W) (.cells #[.slice none 0 0] 27) rfl
  have qb := Lib.hid (below_alloc1 W (.cells #[.slice none 0 0] 27))
  have hA : Hid (HAt (W.alloc (.cells #[.slice none 0 0] 27)) W.heap.size W.heap.size (.slice none 0 0) []) := Lib.hid ⟨q1, ⟨rfl, .inl ⟨rfl, rfl⟩⟩⟩
  clear q1
  go_enter Try.func15, Try.ntmps15
  go_wp2_with fail
  generalize (World.alloc W _) = W1 at *
  (refine (push_ok hA.out hp_nil qb.out.size (by simp) ⟨0, 0, 0, 5⟩).mono ?_); rintro e W2 ⟨rfl, v2, l2, hA2, hH2, hP2, hT2⟩
  have HA2 := Lib.hid hA2; clear hA2
  have HH2 := Lib.hid hH2; clear hH2
  have HP2 := Lib.hid hP2; clear hP2
  have HT2 := Lib.hid hT2; clear hT2
  go_wp2_with fail
  (refine (push_ok HA2.out HH2.out (Nat.le_trans qb.out.size HT2.out.1.size) (by have := HP2.out.length_eq; simp at this; omega) ⟨0, 0, 0, 3⟩).mono ?_); rintro e W3 ⟨rfl, v3, l3, hA3, hH3, hP3, hT3⟩
  have HA3 := Lib.hid hA3; clear hA3
  have HH3 := Lib.hid hH3; clear hH3
  have HP3 := Lib.hid hP3; clear hP3
  have HT3 := Lib.hid (HT2.out.trans hT3); clear hT3
  have hl3 : Hid (l3.length = 2) := Lib.hid (by have h1 := HP2.out.length_eq; have h2 := HP3.out.length_eq; simp at h1 h2; omega)
  have hp0 : 0 < l3.length := by have := hl3.out; omega
  have hx : Hid (l3[0] = ⟨0, 0, 0, 3⟩) := Lib.hid (alive_head HP2.out HP3.out HH3.out hp0)
  have hpop := pop_ok HA3.out HH3.out (by have := hl3.out; omega) hp0
  simp only [hx.out] at hpop
  have HPop := Lib.hid hpop; clear hpop
  go_wp2_with fail
  (with_reducible refine HPop.out.mono ?_); rintro e W4 ⟨rfl, v4, l4, hA4, hH4, hP4, hT4⟩
  have HA4 := Lib.hid hA4; clear hA4
  have HP4 := Lib.hid hP4; clear hP4
  have HT4 := Lib.hid (HT3.out.trans hT4); clear hT4 hH4
  have hl4 : Hid (l4.length = 1) := Lib.hid (by have h1 := HP4.out.length_eq; have h2 := hl3.out; simp at h1; omega)
  have q4 := alloc_at (w := W4) (.cells #[.int .u64 0, .int .u64 0, .int .i64 0, .int .i64 3] 33) rfl
  have qb4 := below_alloc1 W4 (.cells #[.int .u64 0, .int .u64 0, .int .i64 0, .int .i64 3] 33)
  go_wp2_with fail
  have hlen := len_ok (HA4.out.up qb4)
  rw [hl4.out] at hlen
  (with_reducible refine hlen.mono ?_); rintro e W5 ⟨rfl, rfl⟩
  go_wp2
  go_ret
  have hf := HT4.out.1.below qb4
  exact ⟨rfl, ((Fr.of_below (S := fun k => W.heap.size ≤ k) qb.out).trans hf (fun k hk h => by
    rcases h with h | h
    · rw [h]; exact Nat.le_refl _
    · cases h)).toBelow (fun _ h => h) (Nat.le_refl _)⟩
end Go.Proofs.Ytkjapmafipnmpaa.Hp
