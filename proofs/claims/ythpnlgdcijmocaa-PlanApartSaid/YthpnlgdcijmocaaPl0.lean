/- Package plan: data; layout.Check, planner.outside, the search among ints. -/
import Derived.Test.YthpnlgdcijmocaaEnt
import Derived.Test.YthpnlgdcijmocaaIv
import Derived.Test.YthpnlgdcijmocaaRg
import Derived.Deep.DeepCutAuto
import Derived.Deep.CutBlock
namespace Go.Proofs.Ythpnlgdcijmocaa.Pl
open Go.RowKit Rg
set_option linter.unusedVariables false
set_option linter.unusedSimpArgs false
structure GeS where
  seg : Int
  siz : Int
deriving DecidableEq, Inhabited
namespace GeS
def cells (g : GeS) : List Value := [.int .i64 g.seg, .int .i64 g.siz]
def fine (g : GeS) : Prop := (-9223372036854775808 ≤ g.seg ∧ g.seg ≤ 9223372036854775807) ∧ (-9223372036854775808 ≤ g.siz ∧ g.siz ≤ 9223372036854775807)
def chk (g : GeS) : Int := if g.seg < 6 ∨ 32 < g.seg ∨ g.siz < 4 ∨ 32 < g.siz then 4 else 0
theorem chk_zero {g : GeS} (h : g.chk = 0) : 6 ≤ g.seg ∧ g.seg ≤ 32 ∧ 4 ≤ g.siz ∧ g.siz ≤ 32 := by
  unfold chk at h
  by_cases h1 : g.seg < 6 ∨ 32 < g.seg ∨ g.siz < 4 ∨ 32 < g.siz
  · rw [if_pos h1] at h; cases h
  · omega
theorem chk_of {g : GeS} (h : 6 ≤ g.seg ∧ g.seg ≤ 32 ∧ 4 ≤ g.siz ∧ g.siz ≤ 32) : g.chk = 0 := by unfold chk; rw [if_neg (by omega)]
theorem chk_four {g : GeS} (h : ¬ g.chk = 0) : g.chk = 4 := by
  unfold chk at h ⊢
  by_cases h1 : g.seg < 6 ∨ 32 < g.seg ∨ g.siz < 4 ∨ 32 < g.siz
  · rw [if_pos h1]
  · rw [if_neg h1] at h; exact absurd rfl h
end GeS
structure PlcS where
  seg : Int
  off : Int
  next : Int
deriving DecidableEq, Inhabited
namespace PlcS
def cells (p : PlcS) : List Value := [.int .i64 p.seg, .int .i64 p.off, .int .i64 p.next]
def fine (p : PlcS) : Prop := (-9223372036854775808 ≤ p.seg ∧ p.seg ≤ 9223372036854775807) ∧ (-9223372036854775808 ≤ p.off ∧ p.off ≤ 9223372036854775807) ∧ (-9223372036854775808 ≤ p.next ∧ p.next ≤ 9223372036854775807)
def zero : PlcS := ⟨0, 0, 0⟩
end PlcS
abbrev gv (g : GeS) : Value := .agg #[.int .i64 g.seg, .int .i64 g.siz]
abbrev plv (p : PlcS) : Value := .agg #[.int .i64 p.seg, .int .i64 p.off, .int .i64 p.next]
/-- A planner's cells. -/
abbrev pcs (g : GeS) (p : PlcS) (v : Value) : Array Value := #[.int .i64 g.seg, .int .i64 g.siz, .int .i64 p.seg, .int .i64 p.off, .int .i64 p.next, v]
theorem pl_all {W : World} {q : Nat} {g : GeS} {p : PlcS} {v : Value} {t : TypeId} {f : Nat × Nat} (h : W.heap[q]? = some (.cells (pcs g p v) t f)) :
    W.cell? ⟨q, 0, none⟩ = some (.int .i64 g.seg) ∧ W.cell? ⟨q, 1, none⟩ = some (.int .i64 g.siz) ∧ W.cell? ⟨q, 2, none⟩ = some (.int .i64 p.seg) ∧ W.cell? ⟨q, 3, none⟩ = some (.int .i64 p.off) ∧ W.cell? ⟨q, 4, none⟩ = some (.int .i64 p.next) ∧ W.cell? ⟨q, 5, none⟩ = some v := by
  refine ⟨?_, ?_, ?_, ?_, ?_, ?_⟩ <;> (rw [cell_block h]; rfl)
theorem lchk_ok (g : GeS) (w : World) : Calls Try.prog 91 #[gv g] w fun e w' => e = .returned (.int .i64 g.chk) ∧ Below w.heap.size w w' := by
  by_cases hc : g.chk = 0
  · rw [hc]
    obtain ⟨h1, h2, h3, h4⟩ := GeS.chk_zero hc
    clear hc
    go_enter Try.func91, Try.ntmps91
    go_wp2
    go_ret
    exact ⟨rfl, below_alloc1 _ _⟩
  · rw [GeS.chk_four hc]
    have h : g.seg < 6 ∨ (¬ g.seg < 6 ∧ 32 < g.seg) ∨ (¬ g.seg < 6 ∧ ¬ 32 < g.seg ∧ g.siz < 4) ∨ (¬ g.seg < 6 ∧ ¬ 32 < g.seg ∧ ¬ g.siz < 4 ∧ 32 < g.siz) := by
      by_cases h1 : g.seg < 6 ∨ 32 < g.seg ∨ g.siz < 4 ∨ 32 < g.siz
      · omega
      · exact absurd (GeS.chk_of (by omega)) hc
    clear hc
    rcases h with h | ⟨h1, h⟩ | ⟨h1, h2, h⟩ | ⟨h1, h2, h3, h⟩
    all_goals
      go_enter Try.func91, Try.ntmps91
      go_wp2
      go_ret
      exact ⟨rfl, below_alloc1 _ _⟩
/-- No segment? -/
def outB (s n : Int) : Bool := decide (n < 0) || decide (s ≤ n)
theorem outB_f {s n : Int} : outB s n = false ↔ 0 ≤ n ∧ n < s := by
  unfold outB
  rw [Bool.or_eq_false_iff, decide_eq_false_iff_not, decide_eq_false_iff_not]
  omega
theorem outside_ok {W : World} {q : Nat} {g : GeS} {p : PlcS} {v : Value} {f : Nat × Nat} (h : W.heap[q]? = some (.cells (pcs g p v) 122 f)) (n : Int) :
    Calls Try.prog 92 #[.pointer (some ⟨q, 0, none⟩), .int .i64 n] W fun e w' => e = .returned (.bool (outB g.seg n)) ∧ W = w' := by
  have q0 := (pl_all h).1
  clear h
  by_cases h1 : n < 0
  · have e : outB g.seg n = true := by simp [outB, h1]
    rw [e]
    clear e
    go_enter Try.func92, Try.ntmps92
    go_wp2
    go_ret
    exact ⟨ret_bool (by simp [h1]), rfl⟩
  · by_cases h2 : g.seg ≤ n
    · have e : outB g.seg n = true := by simp [outB, h2]
      rw [e]
      clear e
      go_enter Try.func92, Try.ntmps92
      go_wp2
      go_ret
      exact ⟨ret_bool (by simp [h1, h2]), rfl⟩
    · have e : outB g.seg n = false := outB_f.2 (by omega)
      rw [e]
      clear e
      go_enter Try.func92, Try.ntmps92
      go_wp2
      go_ret
      exact ⟨ret_bool (by simp <;> omega), rfl⟩
theorem lam_ok {W : World} {q bx : Nat} {g : GeS} {p : PlcS} {v : Value} {f : Nat × Nat} (h : W.heap[q]? = some (.cells (pcs g p v) 122 f)) (hb : W.cell? ⟨bx, 0, none⟩ = some (.pointer (some ⟨q, 0, none⟩))) (n : Int) :
    Calls Try.prog 94 #[.int .i64 n, .pointer (some ⟨bx, 0, none⟩)] W fun e w' => e = .returned (.bool (outB g.seg n)) ∧ W = w' := by
  have HO := Lib.hid (outside_ok h n)
  clear h
  go_enter Try.func94, Try.ntmps94
  go_wp2_with fail
  (with_reducible refine HO.out.mono ?_); rintro e w1 ⟨rfl, rfl⟩
  go_wp2
  go_ret
  exact ⟨rfl, rfl⟩
set_option maxHeartbeats 1000000 in
theorem idx_ok {w : World} {q bx : Nat} {g : GeS} {p : PlcS} {u : Value} {f : Nat × Nat} (h : w.heap[q]? = some (.cells (pcs g p u) 122 f)) (hb : w.cell? ⟨bx, 0, none⟩ = some (.pointer (some ⟨q, 0, none⟩))) (v : Value) (l : List Int) (hv : IRd w v l) (hl : l.length ≤ 140737488355328) :
    Calls Try.prog 111 #[v, .func (.func 94) #[] #[.pointer (some ⟨bx, 0, none⟩)]] w fun e w' => e = .returned (.int .i64 (fidx (outB g.seg) l)) ∧ w = w' := by
  have HV := Lib.hid hv
  have HL := Lib.hid (fun n => lam_ok h hb n)
  clear h hb
  obtain ⟨A, cap, rfl, _, _⟩ := hv
  go_enter Try.func111, Try.ntmps111
  go_wp2_with fail
  go_loop [8] (fun vi => ∃ k : Nat, k ≤ l.length ∧ vi = .int .i64 k ∧ (l.take k).any (outB g.seg) = false) (fun vi => l.length - (intOf vi).toNat)
  case atStart => exact ⟨0, by omega, rfl, by simp⟩
  case round =>
  obtain ⟨k, hk, rfl, hany⟩ := hrel
  have HO := Lib.hid hany; clear hany
  by_cases hlt : k < l.length
  · have d : decide ((k : Int) < l.length) = true := decide_eq_true (by omega)
    obtain ⟨ad, rfl, k1⟩ := HV.out.get hlt
    have hs := any_take_succ (outB g.seg) l k hlt
    rw [HO.out, Bool.false_or] at hs
    have hat := fidx_at (outB g.seg) l k hlt HO.out
    generalize l[k] = x at *
    have HS := Lib.hid (And.intro hs hat); clear hs hat
    obtain ⟨b, hb⟩ : ∃ b, outB g.seg x = b := ⟨_, rfl⟩
    have HB := Lib.hid hb; clear hb
    cases b with
    | true =>
      go_wp2_with (go_at_call 94; refine (HL.out _).mono ?_; rintro e w1 ⟨rfl, rfl⟩; rw [HB.out])
      go_ret
      exact ⟨ret_int (HS.out.2 HB.out).symm, rfl⟩
    | false =>
      go_wp2_with (go_at_call 94; refine (HL.out _).mono ?_; rintro e w1 ⟨rfl, rfl⟩; rw [HB.out])
      go_round
      case rel => exact ⟨k + 1, by omega, by go_num, by rw [HS.out.1]; exact HB.out⟩
      case measure => simp [intOf]; omega
  · have hkl : k = l.length := by omega
    subst hkl
    have d : decide ((l.length : Int) < l.length) = false := decide_eq_false (by omega)
    go_wp2
    go_ret
    have := HO.out
    rw [List.take_length] at this
    exact ⟨ret_int (fidx_none _ _ this).symm, rfl⟩
theorem any_ok {w : World} {q bx : Nat} {g : GeS} {p : PlcS} {u : Value} {f : Nat × Nat} (h : w.heap[q]? = some (.cells (pcs g p u) 122 f)) (hb : w.cell? ⟨bx, 0, none⟩ = some (.pointer (some ⟨q, 0, none⟩))) (v : Value) (l : List Int) (hv : IRd w v l) (hl : l.length ≤ 140737488355328) :
    Calls Try.prog 93 #[v, .func (.func 94) #[] #[.pointer (some ⟨bx, 0, none⟩)]] w fun e w' => e = .returned (.bool (l.any (outB g.seg))) ∧ w = w' := by
  have hnn := fidx_nn (outB g.seg) l
  have hbd := fidx_bnd (outB g.seg) l
  have hc := idx_ok h hb v l hv hl
  generalize fidx (outB g.seg) l = r at *
  generalize l.any (outB g.seg) = b at *
  have HC := Lib.hid hc; clear hc hv h hb
  go_enter Try.func93, Try.ntmps93
  go_wp2_with (go_at_call 111; refine HC.out.mono ?_; rintro e w1 ⟨rfl, rfl⟩)
  go_ret
  exact ⟨ret_bool (by first | exact hnn | rfl | simp [← hnn]), rfl⟩
end Go.Proofs.Ythpnlgdcijmocaa.Pl
