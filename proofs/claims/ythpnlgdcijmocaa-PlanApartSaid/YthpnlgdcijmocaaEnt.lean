/- Entries as data; batch.odd, slices.ContainsFunc over entries, batch.Check. -/
import Derived.Test.YthpnlgdcijmocaaSl
namespace Go.Proofs.Ythpnlgdcijmocaa
open Go.RowKit
set_option linter.unusedVariables false
set_option linter.unusedSimpArgs false
structure EntS where
  kind : Int
  id : Int
deriving Inhabited, DecidableEq
namespace EntS
def cells (e : EntS) : List Value := [.int .i64 e.kind, .int .i64 e.id]
def fine (e : EntS) : Prop := (-9223372036854775808 ≤ e.kind ∧ e.kind ≤ 9223372036854775807) ∧ (-9223372036854775808 ≤ e.id ∧ e.id ≤ 9223372036854775807)
theorem cells_len (e : EntS) : e.cells.length = 2 := rfl
theorem cells_one (e : EntS) : ∀ u ∈ e.cells, u.oneCell' = true := by simp [cells, Value.oneCell']
/-- May an entry not be? -/
def odd (e : EntS) : Bool := !(e.kind == 1 || e.kind == 2) || decide (e.id < 1) || decide (256 ≤ e.id)
theorem odd_false {e : EntS} (h : e.odd = false) : (e.kind = 1 ∨ e.kind = 2) ∧ 1 ≤ e.id ∧ e.id ≤ 255 := by
  simp [odd] at h; omega
end EntS
abbrev ERd (w : World) (v : Value) (l : List EntS) : Prop := SRd 2 EntS.cells w v l
theorem odd_ok (k i : Int) (w : World) : Calls Try.prog 96 #[.agg #[.int .i64 k, .int .i64 i]] w fun e w' => e = .returned (.bool (EntS.odd ⟨k, i⟩)) ∧ Below w.heap.size w w' := by
  have hd : EntS.odd ⟨k, i⟩ = (!(k == 1 || k == 2) || decide (i < 1) || decide (256 ≤ i)) := rfl
  rw [hd]
  clear hd
  by_cases k1 : k = 1
  · have e1 : (k != 1) = false := by simp [k1]
    have e1' : (k == 1) = true := by simp [k1]
    have HK := Lib.hid k1; clear k1
    by_cases i1 : i < 1
    · go_enter Try.func96, Try.ntmps96
      go_wp2
      go_ret
      exact ⟨ret_bool (by simp [HK.out, i1] <;> omega), below_alloc1 _ _⟩
    · go_enter Try.func96, Try.ntmps96
      go_wp2
      go_ret
      exact ⟨ret_bool (by simp [HK.out, i1] <;> omega), below_alloc1 _ _⟩
  · have e1 : (k != 1) = true := by simp [k1]
    have e1' : (k == 1) = false := by simp [k1]
    have HK := Lib.hid k1; clear k1
    by_cases k2 : k = 2
    · have e2 : (k != 2) = false := by simp [k2]
      have e2' : (k == 2) = true := by simp [k2]
      have HK := Lib.hid k2; clear k2
      by_cases i1 : i < 1
      · go_enter Try.func96, Try.ntmps96
        go_wp2
        go_ret
        exact ⟨ret_bool (by simp [HK.out, i1] <;> omega), below_alloc1 _ _⟩
      · go_enter Try.func96, Try.ntmps96
        go_wp2
        go_ret
        exact ⟨ret_bool (by simp [HK.out, i1] <;> omega), below_alloc1 _ _⟩
    · have e2 : (k != 2) = true := by simp [k2]
      have e2' : (k == 2) = false := by simp [k2]
      have HK2 := Lib.hid k2; clear k2
      go_enter Try.func96, Try.ntmps96
      go_wp2
      go_ret
      exact ⟨ret_bool (by simp [HK.out, HK2.out]), below_alloc1 _ _⟩
set_option maxHeartbeats 1000000 in
theorem idxodd_ok (v : Value) (l : List EntS) (w : World) (hv : ERd w v l) (hl : l.length ≤ 140737488355328) :
    Calls Try.prog 112 #[v, .func (.func 96) #[] #[]] w fun e w' => e = .returned (.int .i64 (fidx EntS.odd l)) ∧ Below w.heap.size w w' := by
  have HV := Lib.hid hv
  obtain ⟨A, cap, rfl, _, _⟩ := hv
  go_enter Try.func112, Try.ntmps112
  go_wp2_with fail
  go_loopw [8] (fun vi W => ∃ k : Nat, k ≤ l.length ∧ vi = .int .i64 k ∧ (l.take k).any EntS.odd = false ∧ Below w.heap.size w W) (fun vi _ => l.length - (intOf vi).toNat)
  case atStart => exact ⟨0, by omega, rfl, by simp, Below.refl _ _⟩
  obtain ⟨k, hk, rfl, hany, hbel⟩ := hrel
  have HO := Lib.hid (And.intro hany hbel); clear hany hbel
  by_cases hlt : k < l.length
  · have d : decide ((k : Int) < l.length) = true := decide_eq_true (by omega)
    obtain ⟨g, o, rfl, _, hc⟩ := HV.out.get EntS.cells_len (by decide) hlt
    have c0 := cell_up (hc 0 (by decide)) HO.out.2
    have c1 := cell_up (hc 1 (by decide)) HO.out.2
    have hs := any_take_succ EntS.odd l k hlt
    rw [HO.out.1, Bool.false_or] at hs
    have hat := fidx_at EntS.odd l k hlt HO.out.1
    clear hc
    generalize l[k] = x at *
    simp only [Nat.add_zero, EntS.cells] at c0 c1
    have HS := Lib.hid (And.intro hs hat); clear hs hat
    obtain ⟨b, hb⟩ : ∃ b, EntS.odd x = b := ⟨_, rfl⟩
    have HB := Lib.hid hb; clear hb
    cases b with
    | true =>
      go_wp2_with (go_at_call 96; refine (odd_ok _ _ _).mono ?_; rintro e w1 ⟨rfl, hb⟩; have H1 := Lib.hid (below_up HO.out.2 hb); clear hb; rw [show EntS.odd ⟨x.kind, x.id⟩ = true from HB.out])
      go_ret
      exact ⟨ret_int (HS.out.2 HB.out).symm, H1.out⟩
    | false =>
      go_wp2_with (go_at_call 96; refine (odd_ok _ _ _).mono ?_; rintro e w1 ⟨rfl, hb⟩; have H1 := Lib.hid (below_up HO.out.2 hb); clear hb; rw [show EntS.odd ⟨x.kind, x.id⟩ = false from HB.out])
      exact ⟨⟨k + 1, by omega, by simp, by rw [HS.out.1]; exact HB.out, H1.out⟩, by simp [intOf]; omega⟩
  · have hkl : k = l.length := by omega
    subst hkl
    have d : decide ((l.length : Int) < l.length) = false := decide_eq_false (by omega)
    go_wp2
    go_ret
    have := HO.out.1
    rw [List.take_length] at this
    exact ⟨ret_int (fidx_none _ _ this).symm, HO.out.2⟩
theorem anyodd_ok (v : Value) (l : List EntS) (w : World) (hv : ERd w v l) (hl : l.length ≤ 140737488355328) :
    Calls Try.prog 95 #[v, .func (.func 96) #[] #[]] w fun e w' => e = .returned (.bool (l.any EntS.odd)) ∧ Below w.heap.size w w' := by
  have hnn := fidx_nn EntS.odd l
  have hbd := fidx_bnd EntS.odd l
  have hc := idxodd_ok v l w hv hl
  generalize fidx EntS.odd l = r at *
  generalize l.any EntS.odd = b at *
  have HC := Lib.hid hc; clear hc hv
  go_enter Try.func95, Try.ntmps95
  go_wp2_with (go_at_call 112; refine HC.out.mono ?_; rintro e w1 ⟨rfl, hb⟩; have H1 := Lib.hid hb; clear hb)
  go_ret
  exact ⟨ret_bool (by first | exact hnn | rfl | simp [← hnn]), H1.out⟩
/-- What batch.Check says. -/
def chkSum (next : Int) (l : List EntS) : Int := if next < 0 ∨ 32 ≤ next then 4 else if 64 < l.length then 3 else if l.any EntS.odd = true then 12 else 0
set_option maxHeartbeats 1000000 in
theorem check_ok (next : Int) (last : Bool) (v : Value) (l : List EntS) (w : World) (hv : ERd w v l) (hl : l.length ≤ 140737488355328) :
    Calls Try.prog 57 #[.agg #[.int .i64 next, .bool last, v]] w fun e w' => e = .returned (.int .i64 (chkSum next l)) ∧ Below w.heap.size w w' := by
  have HV := Lib.hid hv
  obtain ⟨A, cap, rfl, _, _⟩ := hv
  unfold chkSum
  by_cases n1 : next < 0
  · rw [if_pos (.inl n1)]
    go_enter Try.func57, Try.ntmps57
    go_wp2
    go_ret
    exact ⟨rfl, below_alloc1 _ _⟩
  · by_cases n2 : 32 ≤ next
    · rw [if_pos (.inr n2)]
      go_enter Try.func57, Try.ntmps57
      go_wp2
      go_ret
      exact ⟨rfl, below_alloc1 _ _⟩
    · rw [if_neg (by omega)]
      by_cases n3 : 64 < l.length
      · rw [if_pos n3]
        go_enter Try.func57, Try.ntmps57
        go_wp2
        go_ret
        exact ⟨rfl, below_alloc1 _ _⟩
      · rw [if_neg n3]
        have hc := anyodd_ok (.slice A l.length cap) l (w.alloc (.cells #[.int .i64 next, .bool last, .slice A l.length cap] 35)) (HV.out.below (below_alloc1 _ _)) hl
        have HC := Lib.hid hc; clear hc
        cases hb : l.any EntS.odd with
        | true =>
          rw [hb] at HC
          clear hb
          go_enter Try.func57, Try.ntmps57
          go_wp2_with (go_at_call 95; refine HC.out.mono ?_; rintro e w1 ⟨rfl, hb⟩; have H1 := Lib.hid (below_up (below_alloc1 _ _) hb); clear hb)
          go_ret
          exact ⟨rfl, H1.out⟩
        | false =>
          rw [hb] at HC
          clear hb
          go_enter Try.func57, Try.ntmps57
          go_wp2_with (go_at_call 95; refine HC.out.mono ?_; rintro e w1 ⟨rfl, hb⟩; have H1 := Lib.hid (below_up (below_alloc1 _ _) hb); clear hb)
          go_ret
          exact ⟨rfl, H1.out⟩
end Go.Proofs.Ythpnlgdcijmocaa
