/- The walks over code.Check and what it calls. -/
import Derived.Test.YtkjapmafipnmpaaC0
namespace Go.Proofs.Ytkjapmafipnmpaa.Cd
open Go.RowKit Lt
set_option linter.unusedVariables false
set_option linter.unusedSimpArgs false
theorem oddf_ok (n : Int) (w : World) : Calls Try.prog 64 #[.int .i64 n] w fun e w' => e = .returned (.bool (oddF n)) ∧ w = w' := by
  by_cases h : n < 0
  · have e : oddF n = true := by simp [oddF, h]
    rw [e]
    clear e
    go_enter Try.func64, Try.ntmps64
    go_wp2
    go_ret
    exact ⟨ret_bool (by simp [h]), rfl⟩
  · by_cases h2 : 65535 < n
    · have e : oddF n = true := by simp [oddF, h2]
      rw [e]
      clear e
      go_enter Try.func64, Try.ntmps64
      go_wp2
      go_ret
      exact ⟨ret_bool (by simp [h, h2]), rfl⟩
    · have e : oddF n = false := by simp [oddF]; omega
      rw [e]
      clear e
      go_enter Try.func64, Try.ntmps64
      go_wp2
      go_ret
      exact ⟨ret_bool (by simp <;> omega), rfl⟩
set_option maxHeartbeats 1000000 in
theorem idxf_ok (v : Value) (l : List Int) (w : World) (hv : IRd w v l) (hl : l.length ≤ 140737488355328) :
    Calls Try.prog 92 #[v, .func (.func 64) #[] #[]] w fun e w' => e = .returned (.int .i64 (fidx oddF l)) ∧ w = w' := by
  have HV := Lib.hid hv
  obtain ⟨A, cap, rfl, _, _⟩ := hv
  go_enter Try.func92, Try.ntmps92
  go_wp2_with fail
  go_loop [8] (fun vi => ∃ k : Nat, k ≤ l.length ∧ vi = .int .i64 k ∧ (l.take k).any oddF = false) (fun vi => l.length - (intOf vi).toNat)
  case atStart => exact ⟨0, by omega, rfl, by simp⟩
  case round =>
  obtain ⟨k, hk, rfl, hany⟩ := hrel
  have HO := Lib.hid hany; clear hany
  by_cases hlt : k < l.length
  · have d : decide ((k : Int) < l.length) = true := decide_eq_true (by omega)
    obtain ⟨ad, rfl, k1⟩ := HV.out.get hlt
    have hs := any_take_succ oddF l k hlt
    rw [HO.out, Bool.false_or] at hs
    have hat := fidx_at oddF l k hlt HO.out
    generalize l[k] = x at *
    have HS := Lib.hid (And.intro hs hat); clear hs hat
    obtain ⟨b, hb⟩ : ∃ b, oddF x = b := ⟨_, rfl⟩
    have HB := Lib.hid hb; clear hb
    cases b with
    | true =>
      go_wp2_with (go_at_call 64; refine (oddf_ok _ _).mono ?_; rintro e w1 ⟨rfl, rfl⟩; rw [HB.out])
      go_ret
      exact ⟨ret_int (HS.out.2 HB.out).symm, rfl⟩
    | false =>
      go_wp2_with (go_at_call 64; refine (oddf_ok _ _).mono ?_; rintro e w1 ⟨rfl, rfl⟩; rw [HB.out])
      go_round
      case rel => exact ⟨k + 1, by omega, by go_num, by rw [HS.out.1]; exact HB.out⟩
      case measure => simp [intOf]; omega
  · have hkl : k = l.length := by omega
    subst hkl
    have d : decide ((l.length : Int) < l.length) = false := decide_eq_false (by omega)
    go_wp2
    go_ret
    have := HO.out
    rw [List.take_length] at this
    exact ⟨ret_int (fidx_none _ _ this).symm, rfl⟩
theorem anyf_ok (v : Value) (l : List Int) (w : World) (hv : IRd w v l) (hl : l.length ≤ 140737488355328) :
    Calls Try.prog 63 #[v, .func (.func 64) #[] #[]] w fun e w' => e = .returned (.bool (l.any oddF)) ∧ w = w' := by
  have hnn := fidx_nn oddF l
  have hbd := fidx_bnd oddF l
  have hc := idxf_ok v l w hv hl
  generalize fidx oddF l = r at *
  generalize l.any oddF = b at *
  have HC := Lib.hid hc; clear hc hv
  go_enter Try.func63, Try.ntmps63
  go_wp2_with (go_at_call 92; refine HC.out.mono ?_; rintro e w1 ⟨rfl, rfl⟩)
  go_ret
  exact ⟨ret_bool (by first | exact hnn | rfl | simp [← hnn]), rfl⟩
theorem cells8 {W : World} {g : Nat} {a b c d e f h i : Value} {t : TypeId} {fr : Nat × Nat} (hg : W.heap[g]? = some (.cells #[a, b, c, d, e, f, h, i] t fr)) :
    W.cell? ⟨g, 0, none⟩ = some a ∧ W.cell? ⟨g, 1, none⟩ = some b ∧ W.cell? ⟨g, 2, none⟩ = some c ∧ W.cell? ⟨g, 3, none⟩ = some d ∧ W.cell? ⟨g, 4, none⟩ = some e ∧ W.cell? ⟨g, 5, none⟩ = some f ∧ W.cell? ⟨g, 6, none⟩ = some h ∧ W.cell? ⟨g, 7, none⟩ = some i := by
  rw [cell_block hg, cell_block hg, cell_block hg, cell_block hg, cell_block hg, cell_block hg, cell_block hg, cell_block hg]; exact ⟨rfl, rfl, rfl, rfl, rfl, rfl, rfl, rfl⟩
/-- The step's value. -/
abbrev cv (s : StepS) : Value := .agg #[.int .i64 s.kind, .int .i64 s.a, .int .u32 (s.x : Nat), .int .u32 (s.y : Nat), .int .u32 (s.x1 : Nat), .int .u32 (s.y1 : Nat), .string s.d, s.fv]
set_option maxHeartbeats 2000000 in
set_option maxRecDepth 100000 in
theorem chk_ok (s : StepS) (w : World) (hf : s.fine w) :
    Calls Try.prog 22 #[cv s] w fun e w' => e = .returned (.int .i64 s.chk) ∧ Below w.heap.size w w' := by
  obtain ⟨_, _, _, hd, hv, _, hfl⟩ := hf
  obtain ⟨kind, a, x, y, x1, y1, d, fv, f⟩ := s
  simp only at hd hv hfl
  have hb0 := below_alloc1 w (.cells #[.int .i64 kind, .int .i64 a, .int .u32 (x : Nat), .int .u32 (y : Nat), .int .u32 (x1 : Nat), .int .u32 (y1 : Nat), .string d, fv] 45)
  have hany := anyf_ok fv f _ (hv.below hb0) (by omega)
  obtain ⟨A, cap, rfl, _, _⟩ := hv
  obtain ⟨C, hC⟩ : ∃ c, StepS.chk ⟨kind, a, x, y, x1, y1, d, .slice A f.length cap, f⟩ = c := ⟨_, rfl⟩
  rw [hC]
  unfold StepS.chk at hC
  simp only at hC
  by_cases h1 : kind < 1
  · rw [if_pos (.inl h1)] at hC
    subst hC
    clear hany
    go_enter Try.func22, Try.ntmps22
    go_wp2
    go_ret
    exact ⟨rfl, hb0⟩
  by_cases h2 : 13 < kind
  · rw [if_pos (.inr h2)] at hC
    subst hC
    clear hany
    go_enter Try.func22, Try.ntmps22
    go_wp2
    go_ret
    exact ⟨rfl, hb0⟩
  rw [if_neg (by omega)] at hC
  by_cases h3 : a < 0
  · rw [if_pos (.inl h3)] at hC
    subst hC
    clear hany
    go_enter Try.func22, Try.ntmps22
    go_wp2
    go_ret
    exact ⟨rfl, hb0⟩
  by_cases h4 : 4294967295 < a
  · rw [if_pos (.inr (.inl h4))] at hC
    subst hC
    clear hany
    go_enter Try.func22, Try.ntmps22
    go_wp2
    go_ret
    exact ⟨rfl, hb0⟩
  cases hb : f.any oddF with
  | true =>
    rw [if_pos (.inr (.inr hb))] at hC
    subst hC
    rw [hb] at hany
    have HA := Lib.hid hany; clear hany hb
    go_enter Try.func22, Try.ntmps22
    go_wp2_with (go_at_call 63; (with_reducible refine HA.out.mono ?_); rintro e w1 ⟨rfl, rfl⟩)
    go_ret
    exact ⟨rfl, hb0⟩
  | false =>
    rw [if_neg (by rintro (h | h | h); exact h3 h; exact h4 h; rw [hb] at h; cases h)] at hC
    rw [hb] at hany
    have HA := Lib.hid hany; clear hany hb
    by_cases h5 : 255 < d.size
    · rw [if_pos (.inl h5)] at hC
      subst hC
      go_enter Try.func22, Try.ntmps22
      go_wp2_with (go_at_call 63; (with_reducible refine HA.out.mono ?_); rintro e w1 ⟨rfl, rfl⟩)
      go_ret
      exact ⟨rfl, hb0⟩
    by_cases h6 : 255 < f.length
    · rw [if_pos (.inr h6)] at hC
      subst hC
      go_enter Try.func22, Try.ntmps22
      go_wp2_with (go_at_call 63; (with_reducible refine HA.out.mono ?_); rintro e w1 ⟨rfl, rfl⟩)
      go_ret
      exact ⟨rfl, hb0⟩
    rw [if_neg (by omega)] at hC
    subst hC
    go_enter Try.func22, Try.ntmps22
    go_wp2_with (go_at_call 63; (with_reducible refine HA.out.mono ?_); rintro e w1 ⟨rfl, rfl⟩)
    go_ret
    exact ⟨rfl, hb0⟩
end Go.Proofs.Ytkjapmafipnmpaa.Cd
