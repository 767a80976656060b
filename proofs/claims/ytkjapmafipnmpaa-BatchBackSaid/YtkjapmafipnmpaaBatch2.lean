/- The walks over slices.Equal of entries, batch.Same, and the law's may and same. -/
import Derived.Test.YtkjapmafipnmpaaBatch
namespace Go.Proofs.Ytkjapmafipnmpaa.Bt
open Go.RowKit Lt
set_option linter.unusedVariables false
set_option linter.unusedSimpArgs false
theorem neqE (x y : EntS) (w : World) :
    (binOp .neq 76 (.agg #[.int .i64 x.kind, .int .i64 x.id]) (.agg #[.int .i64 y.kind, .int .i64 y.id])).run Try.prog w = .ok (.bool (!(x.kind == y.kind && x.id == y.id))) w := by
  refine neq_of (eqs_of Try.underlying76 (by kernel_rfl) ?_)
  refine eqf_cons (by rfl) (by go_simp; rfl) (by go_simp; rfl) (by go_simp) ?_
  exact eqf_last (by rfl) (by go_simp; rfl) (by go_simp; rfl) (by go_simp)
theorem neqE_same (x : EntS) (w : World) : (binOp .neq 76 (.agg #[.int .i64 x.kind, .int .i64 x.id]) (.agg #[.int .i64 x.kind, .int .i64 x.id])).run Try.prog w = .ok (.bool false) w := by
  rw [neqE]; simp
theorem neqE_other {x y : EntS} (h : x ≠ y) (w : World) : (binOp .neq 76 (.agg #[.int .i64 x.kind, .int .i64 x.id]) (.agg #[.int .i64 y.kind, .int .i64 y.id])).run Try.prog w = .ok (.bool true) w := by
  rw [neqE]
  have : (x.kind == y.kind && x.id == y.id) = false := by
    rw [Bool.eq_false_iff]
    intro e
    simp at e
    exact h (by cases x; cases y; simp_all)
  rw [this]; rfl
theorem take_eq_succ {α : Type} {l1 l2 : List α} {k : Nat} (h1 : k < l1.length) (h2 : k < l2.length) (ht : l1.take k = l2.take k) (hx : l1[k] = l2[k]) : l1.take (k + 1) = l2.take (k + 1) := by
  rw [List.take_succ_eq_append_getElem h1, List.take_succ_eq_append_getElem h2, ht, hx]
theorem below_drN {B : Nat} {w W : World} (h : Below B w W) (n : Nat) : Below B w (W.drewN n) := h.trans ⟨rfl, rfl, rfl, Nat.le_refl _, fun _ _ => rfl⟩
set_option maxHeartbeats 2000000 in
theorem equal_ok (v1 v2 : Value) (l1 l2 : List EntS) (w : World) (h1 : ERd w v1 l1) (h2 : ERd w v2 l2) (hl1 : l1.length ≤ 140737488355328) (hl2 : l2.length ≤ 140737488355328) :
    Calls Try.prog 77 #[v1, v2] w fun e w' => e = .returned (.bool (decide (l1 = l2))) ∧ Below w.heap.size w w' := by
  have H := Lib.hid (And.intro h1 h2)
  obtain ⟨A1, c1, rfl, _, _⟩ := h1
  obtain ⟨A2, c2, rfl, _, _⟩ := h2
  by_cases hlen : l1.length = l2.length
  · have d0 : ((l1.length : Int) != l2.length) = false := by simp [hlen]
    have d0' : (l1.length == l2.length) = true := by simp [hlen]
    have HL := Lib.hid hlen; clear hlen
    go_enter Try.func77, Try.ntmps77
    go_wp2_with fail
    go_loopw [13] (fun vi W => ∃ k : Nat, k ≤ l1.length ∧ vi = .int .i64 k ∧ l1.take k = l2.take k ∧ Below w.heap.size w W) (fun vi _ => l1.length - (intOf vi).toNat)
    case atStart => exact ⟨0, by omega, rfl, by simp, Below.refl _ _⟩
    obtain ⟨k, hk, rfl, htk, hbel⟩ := hrel
    have HT := Lib.hid (And.intro htk hbel); clear htk hbel
    by_cases hlt : k < l1.length
    · have d : decide ((k : Int) < l1.length) = true := decide_eq_true (by omega)
      have hlt2 : k < l2.length := by rw [← HL.out]; exact hlt
      obtain ⟨g1, o1, rfl, _, k1⟩ := H.out.1.get EntS.cells_len (by decide) hlt
      obtain ⟨g2, o2, rfl, _, k2⟩ := H.out.2.get EntS.cells_len (by decide) hlt2
      have a0 := cell_up (k1 0 (by decide)) HT.out.2
      have a1 := cell_up (k1 1 (by decide)) HT.out.2
      have b0 := cell_up (k2 0 (by decide)) HT.out.2
      have b1 := cell_up (k2 1 (by decide)) HT.out.2
      clear k1 k2
      by_cases hx : l1[k] = l2[k]
      · have ht := take_eq_succ hlt hlt2 HT.out.1 hx
        have HT2 := Lib.hid ht; clear ht
        rw [← hx] at b0 b1
        clear hx
        generalize l1[k] = x at *
        simp only [Nat.add_zero, EntS.cells] at a0 a1 b0 b1
        have hne := neqE_same x
        go_wp2_with fail
        go_quiet (fail)
        go_wp2
        exact ⟨⟨k + 1, by omega, by simp, HT2.out, below_drN HT.out.2 _⟩, by simp [intOf]; omega⟩
      · have hne : ¬ l1 = l2 := fun e => hx (by subst e; rfl)
        have HN := Lib.hid hne; clear hne
        have hne := neqE_other hx
        clear hx
        generalize l1[k] = x at *
        generalize l2[k] = y at *
        simp only [Nat.add_zero, EntS.cells] at a0 a1 b0 b1
        go_wp2_with fail
        go_quiet (fail)
        go_wp2
        go_ret
        exact ⟨ret_bool (decide_eq_false HN.out).symm, below_drN HT.out.2 _⟩
    · have hkl : k = l1.length := by omega
      subst hkl
      have d : decide ((l1.length : Int) < l1.length) = false := decide_eq_false (by omega)
      go_wp2
      go_ret
      have := HT.out.1
      rw [List.take_length, HL.out, List.take_length] at this
      exact ⟨ret_bool (decide_eq_true this).symm, HT.out.2⟩
  · have d0 : ((l1.length : Int) != l2.length) = true := by simp; omega
    have d0' : (l1.length == l2.length) = false := by simp [hlen]
    have hne : ¬ l1 = l2 := fun e => hlen (by rw [e])
    have HN := Lib.hid hne; clear hne
    have HL := Lib.hid hlen; clear hlen
    go_enter Try.func77, Try.ntmps77
    go_wp2
    go_ret
    exact ⟨ret_bool (decide_eq_false HN.out).symm, Below.refl _ _⟩
/-- Are two summaries one? -/
def sameS (n1 n2 : Int) (b1 b2 : Bool) (l1 l2 : List EntS) : Bool := decide (n1 = n2 ∧ b1 = b2 ∧ l1 = l2)
theorem sameS_n {n1 n2 : Int} {b1 b2 : Bool} {l1 l2 : List EntS} (h : ¬ n1 = n2) : sameS n1 n2 b1 b2 l1 l2 = false := decide_eq_false fun e => h e.1
theorem sameS_b {n1 n2 : Int} {b1 b2 : Bool} {l1 l2 : List EntS} (h : ¬ b1 = b2) : sameS n1 n2 b1 b2 l1 l2 = false := decide_eq_false fun e => h e.2.1
theorem sameS_l {n : Int} {b : Bool} {l1 l2 : List EntS} : sameS n n b b l1 l2 = decide (l1 = l2) := by unfold sameS; simp
set_option maxHeartbeats 1000000 in
theorem same_ok (n1 n2 : Int) (b1 b2 : Bool) (v1 v2 : Value) (l1 l2 : List EntS) (w : World) (h1 : ERd w v1 l1) (h2 : ERd w v2 l2) (hl1 : l1.length ≤ 140737488355328) (hl2 : l2.length ≤ 140737488355328) :
    Calls Try.prog 41 #[.agg #[.int .i64 n1, .bool b1, v1], .agg #[.int .i64 n2, .bool b2, v2]] w fun e w' => e = .returned (.bool (sameS n1 n2 b1 b2 l1 l2)) ∧ Below w.heap.size w w' := by
  have H := Lib.hid (And.intro h1 h2)
  obtain ⟨A1, c1, rfl, _, _⟩ := h1
  obtain ⟨A2, c2, rfl, _, _⟩ := h2
  by_cases hn : n1 = n2
  · subst hn
    have hb2 := fun (W : World) (hb : Below w.heap.size w W) => equal_ok _ _ l1 l2 W (H.out.1.below hb) (H.out.2.below hb) hl1 hl2
    by_cases hb : b1 = b2
    · subst hb
      rw [sameS_l]
      have HE := Lib.hid hb2; clear hb2
      generalize decide (l1 = l2) = r at *
      cases b1
      all_goals
        go_enter Try.func41, Try.ntmps41
        go_wp2_with (go_at_call 77; refine (HE.out _ (below_alloc (below_alloc1 _ _) _)).mono ?_; rintro e w1 ⟨rfl, hb⟩; have H1 := Lib.hid (below_up (below_alloc (below_alloc1 _ _) _) hb); clear hb)
        go_ret
        exact ⟨rfl, H1.out⟩
    · rw [sameS_b hb]
      clear hb2
      cases b1 <;> cases b2 <;> first | exact absurd rfl hb | skip
      all_goals
        clear hb
        go_enter Try.func41, Try.ntmps41
        go_wp2
        go_ret
        exact ⟨rfl, below_alloc (below_alloc1 _ _) _⟩
  · rw [sameS_n hn]
    have e1 : (n1 == n2) = false := by simpa using hn
    clear hn
    go_enter Try.func41, Try.ntmps41
    go_wp2
    go_ret
    exact ⟨rfl, below_alloc (below_alloc1 _ _) _⟩
set_option maxHeartbeats 4000000 in
theorem lsame_ok (n1 n2 : Int) (b1 b2 : Bool) (v1 v2 : Value) (l1 l2 : List EntS) (w : World) (h1 : ERd w v1 l1) (h2 : ERd w v2 l2) (hl1 : l1.length ≤ 140737488355328) (hl2 : l2.length ≤ 140737488355328) :
    Calls Try.prog 42 #[.agg #[.int .i64 n1, .bool b1, v1], .agg #[.int .i64 n2, .bool b2, v2]] w fun e w' => e = .returned (.bool (sameS n1 n2 b1 b2 l1 l2)) ∧ Below w.heap.size w w' := by
  have H := Lib.hid (And.intro h1 h2)
  obtain ⟨A1, c1, rfl, _, _⟩ := h1
  obtain ⟨A2, c2, rfl, _, _⟩ := h2
  by_cases hn : n1 = n2
  · subst hn
    have e1 : (n1 != n1) = false := by simp
    by_cases hb : b1 = b2
    · subst hb
      rw [sameS_l]
      have e2 : (b1 != b1) = false := by simp
      by_cases hlen : l1.length = l2.length
      · have d0 : ((l1.length : Int) != l2.length) = false := by simp [hlen]
        have d0' : (l1.length == l2.length) = true := by simp [hlen]
        have HL := Lib.hid hlen; clear hlen
        go_enter Try.func42, Try.ntmps42
        go_wp2_with fail
        have hg := alloc_old (alloc_at (w := w) (.cells #[.int .i64 n1, .bool b1, .slice A1 l1.length c1] 73) rfl) (.cells #[.int .i64 n1, .bool b1, .slice A2 l2.length c2] 73)
        have hg2 := alloc_at (w := w.alloc (.cells #[.int .i64 n1, .bool b1, .slice A1 l1.length c1] 73)) (n := w.heap.size + 1) (.cells #[.int .i64 n1, .bool b1, .slice A2 l2.length c2] 73) (by simp)
        have hbel := below_alloc (below_alloc1 w (.cells #[.int .i64 n1, .bool b1, .slice A1 l1.length c1] 73)) (.cells #[.int .i64 n1, .bool b1, .slice A2 l2.length c2] 73)
        generalize ((w.alloc _).alloc _) = w2 at *
        have HW := Lib.hid (And.intro hg (And.intro hg2 hbel)); clear hg hg2 hbel
        go_loopw [5] (fun vi W => ∃ k : Nat, k ≤ l1.length ∧ vi = .int .i64 k ∧ l1.take k = l2.take k ∧ Below w2.heap.size w2 W) (fun vi _ => l1.length - (intOf vi).toNat)
        case atStart => exact ⟨0, by omega, rfl, by simp, Below.refl _ _⟩
        obtain ⟨k, hk, rfl, htk, hbel⟩ := hrel
        have q2 := (cells3 (block_up HW.out.1 hbel)).2.2
        have r2 := (cells3 (block_up HW.out.2.1 hbel)).2.2
        have HT := Lib.hid (And.intro htk (And.intro hbel (below_up HW.out.2.2 hbel))); clear htk hbel
        by_cases hlt : k < l1.length
        · have d : decide ((k : Int) < l1.length) = true := decide_eq_true (by omega)
          have hlt2 : k < l2.length := by rw [← HL.out]; exact hlt
          obtain ⟨g1, o1, rfl, _, k1⟩ := H.out.1.get EntS.cells_len (by decide) hlt
          obtain ⟨g2, o2, rfl, _, k2⟩ := H.out.2.get EntS.cells_len (by decide) hlt2
          have a0 := cell_up (k1 0 (by decide)) HT.out.2.2
          have a1 := cell_up (k1 1 (by decide)) HT.out.2.2
          have b0 := cell_up (k2 0 (by decide)) HT.out.2.2
          have b1' := cell_up (k2 1 (by decide)) HT.out.2.2
          clear k1 k2
          by_cases hx : l1[k] = l2[k]
          · have ht := take_eq_succ hlt hlt2 HT.out.1 hx
            have HT2 := Lib.hid ht; clear ht
            rw [← hx] at b0 b1'
            clear hx
            generalize l1[k] = x at *
            simp only [Nat.add_zero, EntS.cells] at a0 a1 b0 b1'
            have hne := neqE_same x
            go_wp2_with fail
            go_quiet (fail)
            go_wp2
            exact ⟨⟨k + 1, by omega, by simp, HT2.out, below_drN HT.out.2.1 _⟩, by simp [intOf]; omega⟩
          · have hne : ¬ l1 = l2 := fun e => hx (by subst e; rfl)
            have HN := Lib.hid hne; clear hne
            have hne := neqE_other hx
            clear hx
            generalize l1[k] = x at *
            generalize l2[k] = y at *
            simp only [Nat.add_zero, EntS.cells] at a0 a1 b0 b1'
            go_wp2_with fail
            go_quiet (fail)
            go_wp2
            go_ret
            exact ⟨ret_bool (decide_eq_false HN.out).symm, below_drN HT.out.2.2 _⟩
        · have hkl : k = l1.length := by omega
          subst hkl
          have d : decide ((l1.length : Int) < l1.length) = false := decide_eq_false (by omega)
          go_wp2
          go_ret
          have := HT.out.1
          rw [List.take_length, HL.out, List.take_length] at this
          exact ⟨ret_bool (decide_eq_true this).symm, HT.out.2.2⟩
      · have d0 : ((l1.length : Int) != l2.length) = true := by simp; omega
        have d0' : (l1.length == l2.length) = false := by simp [hlen]
        have hne : ¬ l1 = l2 := fun e => hlen (by rw [e])
        rw [decide_eq_false hne]
        clear hne hlen
        go_enter Try.func42, Try.ntmps42
        go_wp2
        go_ret
        exact ⟨rfl, below_alloc (below_alloc1 _ _) _⟩
    · rw [sameS_b hb]
      cases b1 <;> cases b2 <;> first | exact absurd rfl hb | skip
      all_goals
        clear hb
        go_enter Try.func42, Try.ntmps42
        go_wp2
        go_ret
        exact ⟨rfl, below_alloc (below_alloc1 _ _) _⟩
  · rw [sameS_n hn]
    have e1 : (n1 != n2) = true := by simpa using hn
    have e1' : (n1 == n2) = false := by simpa using hn
    clear hn
    go_enter Try.func42, Try.ntmps42
    go_wp2
    go_ret
    exact ⟨rfl, below_alloc (below_alloc1 _ _) _⟩
end Go.Proofs.Ytkjapmafipnmpaa.Bt
