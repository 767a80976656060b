/- The walks over the law's may and alive, and BatchTells. -/
import Derived.Test.YtkjapmafipnmpaaBatch2
import Derived.Deep.DeepCutAuto
namespace Go.Proofs.Ytkjapmafipnmpaa.Bt
open Go.RowKit Lt
set_option linter.unusedVariables false
set_option linter.unusedSimpArgs false
theorem odd_cases {x : EntS} (h : x.odd = true) : x.kind < 1 ∨ (¬ x.kind < 1 ∧ 2 < x.kind) ∨ (¬ x.kind < 1 ∧ ¬ 2 < x.kind ∧ x.id < 1) ∨ (¬ x.kind < 1 ∧ ¬ 2 < x.kind ∧ ¬ x.id < 1 ∧ 255 < x.id) := by
  simp [EntS.odd] at h; omega
set_option maxHeartbeats 4000000 in
theorem may_ok (next : Int) (last : Bool) (v : Value) (l : List EntS) (w : World) (hv : ERd w v l) (hl : l.length ≤ 140737488355328) :
    Calls Try.prog 37 #[.agg #[.int .i64 next, .bool last, v]] w fun e w' => e = .returned (.int .i64 (chkSum next l)) ∧ Below w.heap.size w w' := by
  have HV := Lib.hid hv
  obtain ⟨A, cap, rfl, _, _⟩ := hv
  unfold chkSum
  by_cases n1 : next < 0
  · rw [if_pos (.inl n1)]
    go_enter Try.func37, Try.ntmps37
    go_wp2
    go_ret
    exact ⟨rfl, below_alloc1 _ _⟩
  · by_cases n2 : 32 ≤ next
    · rw [if_pos (.inr n2)]
      go_enter Try.func37, Try.ntmps37
      go_wp2
      go_ret
      exact ⟨rfl, below_alloc1 _ _⟩
    · rw [if_neg (by omega)]
      by_cases n3 : 64 < l.length
      · rw [if_pos n3]
        go_enter Try.func37, Try.ntmps37
        go_wp2
        go_ret
        exact ⟨rfl, below_alloc1 _ _⟩
      · rw [if_neg n3]
        obtain ⟨c, hc⟩ : ∃ c : Int, (if l.any EntS.odd = true then (12 : Int) else 0) = c := ⟨_, rfl⟩
        rw [hc]
        have HC := Lib.hid hc; clear hc
        go_enter Try.func37, Try.ntmps37
        go_wp2_with fail
        have hg := alloc_at (w := w) (.cells #[.int .i64 next, .bool last, .slice A l.length cap] 73) rfl
        have hbel := below_alloc1 w (.cells #[.int .i64 next, .bool last, .slice A l.length cap] 73)
        generalize (w.alloc _) = w2 at *
        have HW := Lib.hid (And.intro hg hbel); clear hg hbel
        go_loopw [3] (fun vi W => ∃ k : Nat, k ≤ l.length ∧ vi = .int .i64 k ∧ (l.take k).any EntS.odd = false ∧ Below w2.heap.size w2 W) (fun vi _ => l.length - (intOf vi).toNat)
        case atStart => exact ⟨0, by omega, rfl, by simp, Below.refl _ _⟩
        obtain ⟨k, hk, rfl, hany, hbel⟩ := hrel
        have q2 := (cells3 (block_up HW.out.1 hbel)).2.2
        have HT := Lib.hid (And.intro hany (And.intro hbel (below_up HW.out.2 hbel))); clear hany hbel
        by_cases hlt : k < l.length
        · have d : decide ((k : Int) < l.length) = true := decide_eq_true (by omega)
          obtain ⟨g1, o1, rfl, _, k1⟩ := HV.out.get EntS.cells_len (by decide) hlt
          have a0 := cell_up (k1 0 (by decide)) HT.out.2.2
          have a1 := cell_up (k1 1 (by decide)) HT.out.2.2
          have hs := any_take_succ EntS.odd l k hlt
          rw [HT.out.1, Bool.false_or] at hs
          have hmem : l[k].odd = true → l.any EntS.odd = true := fun h => List.any_eq_true.2 ⟨_, List.getElem_mem hlt, h⟩
          clear k1
          generalize l[k] = x at *
          simp only [Nat.add_zero, EntS.cells] at a0 a1
          have HS := Lib.hid (And.intro hs hmem); clear hs hmem
          by_cases hx : x.odd = true
          · have ha := HS.out.2 hx
            have HA := Lib.hid ha; clear ha
            rcases odd_cases hx with h | ⟨h, h'⟩ | ⟨h, h', h''⟩ | ⟨h, h', h'', h'''⟩
            all_goals
              clear hx
              go_wp2
              go_ret
              exact ⟨ret_int (by rw [← HC.out, if_pos HA.out]), below_alloc HT.out.2.2 _⟩
          · have hx' : x.odd = false := by simpa using hx
            obtain ⟨h1, h2, h3⟩ := EntS.odd_false hx'
            have HX := Lib.hid hx'; clear hx hx'
            have h4 : ¬ x.kind < 1 := by omega
            have h5 : ¬ 2 < x.kind := by omega
            clear h1
            go_wp2
            exact ⟨⟨k + 1, by omega, by simp, by rw [HS.out.1]; exact HX.out, below_alloc HT.out.2.1 _⟩, by simp [intOf]; omega⟩
        · have hkl : k = l.length := by omega
          subst hkl
          have d : decide ((l.length : Int) < l.length) = false := decide_eq_false (by omega)
          have := HT.out.1
          rw [List.take_length] at this
          have HA := Lib.hid this; clear this
          go_wp2
          go_ret
          exact ⟨ret_int (by rw [← HC.out, HA.out]; rfl), HT.out.2.2⟩
theorem sum0 : sumB 0 false [] = [0, 0, 0] := by decide
set_option maxHeartbeats 1000000 in
theorem alive_ok (w : World) : Calls Try.prog 36 #[] w fun e w' => e = .returned (.bool true) ∧ Below w.heap.size w w' := by
  have hp := put_yes 0 false (.slice none 0 0) [] w (srd_nil _ _ _) (by decide) (by simp) (by decide)
  rw [sum0] at hp
  have HP := Lib.hid hp; clear hp
  go_enter Try.func36, Try.ntmps36
  go_wp2_with (go_at_call 38; refine HP.out.mono ?_; rintro e w1 ⟨x, rfl, hx, hb⟩; have hc := conv_rd (P := Try.prog) hx 40 5 9 Try.underlying40 Try.underlying5 Try.underlying9; have H1 := Lib.hid hb; clear hx hb)
  go_ret
  exact ⟨ret_bool (by decide +kernel), H1.out⟩
end Go.Proofs.Ytkjapmafipnmpaa.Bt
