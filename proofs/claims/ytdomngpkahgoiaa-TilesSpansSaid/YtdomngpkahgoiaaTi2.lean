/- The walks over package rect: Empty, Cut, Meets, Within. -/
import Derived.Test.YtdomngpkahgoiaaRc
import Derived.Test.YtdomngpkahgoiaaWi2
import Derived.Test.YtdomngpkahgoiaaRg
namespace Go.Proofs.Ytdomngpkahgoiaa.Ti
open Go.RowKit Rg St
set_option linter.unusedVariables false
set_option linter.unusedSimpArgs false
theorem empty_ok (r : RcS) (w : World) : Calls Try.prog 21 #[rcv r] w fun e w' => e = .returned (.bool r.emp) ∧ Below w.heap.size w w' := by
  obtain ⟨a, b, c, d⟩ := r
  unfold RcS.emp
  simp only
  by_cases h1 : c < a
  · have k1 : decide (c < a) = true := decide_eq_true h1
    rw [k1, Bool.true_or]
    go_enter Try.func21, Try.ntmps21
    go_wp2
    go_ret
    exact ⟨rfl, below_alloc1 _ _⟩
  · have k1 : decide (c < a) = false := decide_eq_false h1
    rw [k1, Bool.false_or]
    obtain ⟨k, hk⟩ : ∃ k, decide (d < b) = k := ⟨_, rfl⟩
    rw [hk]
    go_enter Try.func21, Try.ntmps21
    go_wp2
    go_ret
    exact ⟨ret_bool (by simp [hk]), below_alloc1 _ _⟩
theorem none_ok (w : World) : Calls Try.prog 74 #[] w fun e w' => e = .returned (rcv ⟨1, 1, 0, 0⟩) ∧ Below w.heap.size w w' := by
  go_enter Try.func74, Try.ntmps74
  go_wp2
  refine bodyPost_ret (v := rcv ⟨1, 1, 0, 0⟩) (by simp [results, Try.results74, go_sem, rcv]) rfl ⟨rfl, ?_⟩
  exact below_alloc1 _ _
theorem rcell {W : World} {g : Nat} {r : RcS} (h : W.heap[g]? = some (.cells #[.int .u32 (r.x0 : Nat), .int .u32 (r.y0 : Nat), .int .u32 (r.x1 : Nat), .int .u32 (r.y1 : Nat)] 24 (0, 0))) :
    W.cell? ⟨g, 0, none⟩ = some (.int .u32 (r.x0 : Nat)) ∧ W.cell? ⟨g, 1, none⟩ = some (.int .u32 (r.y0 : Nat)) ∧ W.cell? ⟨g, 2, none⟩ = some (.int .u32 (r.x1 : Nat)) ∧ W.cell? ⟨g, 3, none⟩ = some (.int .u32 (r.y1 : Nat)) := cells4 h
/-- A window's block. -/
abbrev RB (W : World) (g : Nat) (r : RcS) : Prop := W.heap[g]? = some (.cells #[.int .u32 (r.x0 : Nat), .int .u32 (r.y0 : Nat), .int .u32 (r.x1 : Nat), .int .u32 (r.y1 : Nat)] 24 (0, 0))
set_option maxHeartbeats 4000000 in
set_option maxRecDepth 100000 in
theorem cutr_ok (a b : RcS) (w : World) : Calls Try.prog 43 #[rcv a, rcv b] w fun e w' => e = .returned (rcv (RcS.cutR a b)) ∧ Below w.heap.size w w' := by
  have HEm := Lib.hid (fun r W => empty_ok r W)
  have HNo := Lib.hid (fun W => none_ok W)
  have s1 := fun (W : World) (o : Obj) => (show (W.alloc o).heap.size = W.heap.size + 1 by unfold World.alloc; simp)
  have hq0 := alloc_at (w := w) (.cells #[.int .u32 (a.x0 : Nat), .int .u32 (a.y0 : Nat), .int .u32 (a.x1 : Nat), .int .u32 (a.y1 : Nat)] 24) rfl
  have hb0 := below_alloc1 w (.cells #[.int .u32 (a.x0 : Nat), .int .u32 (a.y0 : Nat), .int .u32 (a.x1 : Nat), .int .u32 (a.y1 : Nat)] 24)
  have hz0 := s1 w (.cells #[.int .u32 (a.x0 : Nat), .int .u32 (a.y0 : Nat), .int .u32 (a.x1 : Nat), .int .u32 (a.y1 : Nat)] 24)
  generalize hW0 : w.alloc (.cells #[.int .u32 (a.x0 : Nat), .int .u32 (a.y0 : Nat), .int .u32 (a.x1 : Nat), .int .u32 (a.y1 : Nat)] 24) = W0 at *
  have hq1 := alloc_at (w := W0) (.cells #[.int .u32 (b.x0 : Nat), .int .u32 (b.y0 : Nat), .int .u32 (b.x1 : Nat), .int .u32 (b.y1 : Nat)] 24) hz0.symm
  have hq01 := alloc_old hq0 (.cells #[.int .u32 (b.x0 : Nat), .int .u32 (b.y0 : Nat), .int .u32 (b.x1 : Nat), .int .u32 (b.y1 : Nat)] 24)
  have hb1 := below_alloc hb0 (.cells #[.int .u32 (b.x0 : Nat), .int .u32 (b.y0 : Nat), .int .u32 (b.x1 : Nat), .int .u32 (b.y1 : Nat)] 24)
  have hz1 := s1 W0 (.cells #[.int .u32 (b.x0 : Nat), .int .u32 (b.y0 : Nat), .int .u32 (b.x1 : Nat), .int .u32 (b.y1 : Nat)] 24)
  rw [hz0] at hz1
  generalize hW1 : W0.alloc (.cells #[.int .u32 (b.x0 : Nat), .int .u32 (b.y0 : Nat), .int .u32 (b.x1 : Nat), .int .u32 (b.y1 : Nat)] 24) = W1 at *
  have hq2 := alloc_at (w := W1) (.cells #[.int .u32 0, .int .u32 0, .int .u32 0, .int .u32 0] 24) hz1.symm
  have hq02 := alloc_old hq01 (.cells #[.int .u32 0, .int .u32 0, .int .u32 0, .int .u32 0] 24)
  have hq12 := alloc_old hq1 (.cells #[.int .u32 0, .int .u32 0, .int .u32 0, .int .u32 0] 24)
  have hb2 := below_alloc hb1 (.cells #[.int .u32 0, .int .u32 0, .int .u32 0, .int .u32 0] 24)
  have hz2 := s1 W1 (.cells #[.int .u32 0, .int .u32 0, .int .u32 0, .int .u32 0] 24)
  rw [hz1] at hz2
  have HS := Lib.hid (And.intro hq02 (And.intro hq12 (And.intro hq2 (And.intro hb2 hz2))))
  obtain ⟨c, hc⟩ : ∃ c, RcS.both a b = c := ⟨_, rfl⟩
  obtain ⟨R, hR⟩ : ∃ R, RcS.cutR a b = R := ⟨_, rfl⟩
  have HC := Lib.hid hc
  have HCR := Lib.hid hR
  rw [hR]
  subst hW0 hW1
  clear hq0 hb0 hz0 hq1 hq01 hb1 hz1 hq2 hq02 hq12 hb2 hz2 hc hR s1
  go_enter Try.func43, Try.ntmps43
  go_upto_region 1 with (fail)
  generalize (((w.alloc _).alloc _).alloc _) = W2 at *
  go_cut [5] (fun v5 wx => v5 = .pointer (some ⟨w.heap.size + 1 + 1 + 1, 0, none⟩) ∧ (RB wx w.heap.size a ∧ RB wx (w.heap.size + 1) b ∧ RB wx (w.heap.size + 1 + 1 + 1) c ∧ RB wx (w.heap.size + 1 + 1) ⟨0, 0, 0, 0⟩) ∧ Below w.heap.size w wx)
  case first =>
    obtain ⟨a0, a1, a2, a3⟩ := rcell HS.out.1
    obtain ⟨b0, b1, b2, b3⟩ := rcell HS.out.2.1
    have hbz := HS.out.2.2.2.2
    have HF : Hid (∀ n0 n1 n2 n3 : Nat, n0 = max a.x0 b.x0 → n1 = max a.y0 b.y0 → n2 = min a.x1 b.x1 → n3 = min a.y1 b.y1 → (RB (W2.alloc (.cells #[.int .u32 (n0 : Nat), .int .u32 (n1 : Nat), .int .u32 (n2 : Nat), .int .u32 (n3 : Nat)] 24)) w.heap.size a ∧ RB (W2.alloc (.cells #[.int .u32 (n0 : Nat), .int .u32 (n1 : Nat), .int .u32 (n2 : Nat), .int .u32 (n3 : Nat)] 24)) (w.heap.size + 1) b ∧ RB (W2.alloc (.cells #[.int .u32 (n0 : Nat), .int .u32 (n1 : Nat), .int .u32 (n2 : Nat), .int .u32 (n3 : Nat)] 24)) (w.heap.size + 1 + 1 + 1) c ∧ RB (W2.alloc (.cells #[.int .u32 (n0 : Nat), .int .u32 (n1 : Nat), .int .u32 (n2 : Nat), .int .u32 (n3 : Nat)] 24)) (w.heap.size + 1 + 1) ⟨0, 0, 0, 0⟩) ∧ Below w.heap.size w (W2.alloc (.cells #[.int .u32 (n0 : Nat), .int .u32 (n1 : Nat), .int .u32 (n2 : Nat), .int .u32 (n3 : Nat)] 24))) := Lib.hid (fun n0 n1 n2 n3 e0 e1 e2 e3 => by
      refine ⟨⟨alloc_old HS.out.1 _, alloc_old HS.out.2.1 _, ?_, alloc_old HS.out.2.2.1 _⟩, below_alloc HS.out.2.2.2.1 _⟩
      rw [← HC.out]
      show _ = some (Obj.cells #[.int .u32 (max a.x0 b.x0 : Nat), .int .u32 (max a.y0 b.y0 : Nat), .int .u32 (min a.x1 b.x1 : Nat), .int .u32 (min a.y1 b.y1 : Nat)] 24 (0, 0))
      rw [← e0, ← e1, ← e2, ← e3]
      exact alloc_at _ HS.out.2.2.2.2.symm)
    clear HS
    go_wp2
    all_goals (go_meet; case rel => exact ⟨rfl, HF.out _ _ _ _ (by omega) (by omega) (by omega) (by omega)⟩)
  case rest =>
  obtain ⟨rfl, hS, hbc⟩ := hcut
  have HS2 := Lib.hid (And.intro hS hbc)
  clear hS hbc HS
  have hEa := HEm.out a
  have hEb := HEm.out b
  have hEc := HEm.out c
  unfold RcS.cutR at HCR
  rw [HC.out] at HCR
  obtain ⟨a0, a1, a2, a3⟩ := rcell HS2.out.1.1
  cases hea : a.emp with
  | true =>
    rw [hea] at hEa HCR
    rw [Bool.true_or, Bool.true_or, if_pos rfl] at HCR
    have HR := HCR
    clear HCR hea HC hEb hEc
    go_wp2_with fail
    (with_reducible refine (hEa _).mono ?_); rintro e w3 ⟨rfl, hb⟩
    have HBx := Lib.hid hb
    clear hb hEa a0 a1 a2 a3
    go_wp2_with fail
    (with_reducible refine (HNo.out _).mono ?_); rintro e w8 ⟨rfl, hb8⟩
    have hbb := below_up HBx.out hb8
    have hq := block_up HS2.out.1.2.2.2 hbb
    have hf := free_block hq
    obtain ⟨d0, d1, d2, d3⟩ := cells4 hq
    have HB9 := Lib.hid (below_up HS2.out.2 hbb)
    clear hb8 hbb hq
    go_wp2
    refine bodyPost_ret (v := rcv ⟨1, 1, 0, 0⟩) (by simp [results, Try.results43, go_sem, rcv, d0, d1, d2, d3]) rfl ⟨by rw [← HR.out], ?_⟩
    exact (((HB9.out.setCell (by simp; omega) _).setCell (by simp; omega) _).setCell (by simp; omega) _).setCell (by simp; omega) _
  | false =>
    rw [hea] at hEa HCR
    rw [Bool.false_or] at HCR
    have hEa := Lib.hid hEa
    clear hea
    cases heb : b.emp with
    | true =>
      rw [heb] at hEb HCR
      rw [Bool.true_or, if_pos rfl] at HCR
      have HR := HCR
      have hEb := Lib.hid hEb
      clear HCR heb HC hEc
      go_wp2_with fail
      (with_reducible refine (hEa.out _).mono ?_); rintro e w3 ⟨rfl, hb⟩
      have HB3 := Lib.hid hb
      clear hb a0 a1 a2 a3
      obtain ⟨b0, b1, b2, b3⟩ := rcell (block_up HS2.out.1.2.1 HB3.out)
      go_wp2_with fail
      (with_reducible refine (hEb.out _).mono ?_); rintro e w4 ⟨rfl, hb⟩
      have HBx := Lib.hid (below_up HB3.out hb)
      clear hb b0 b1 b2 b3
      go_wp2_with fail
      (with_reducible refine (HNo.out _).mono ?_); rintro e w8 ⟨rfl, hb8⟩
      have hbb := below_up HBx.out hb8
      have hq := block_up HS2.out.1.2.2.2 hbb
      have hf := free_block hq
      obtain ⟨d0, d1, d2, d3⟩ := cells4 hq
      have HB9 := Lib.hid (below_up HS2.out.2 hbb)
      clear hb8 hbb hq
      go_wp2
      refine bodyPost_ret (v := rcv ⟨1, 1, 0, 0⟩) (by simp [results, Try.results43, go_sem, rcv, d0, d1, d2, d3]) rfl ⟨by rw [← HR.out], ?_⟩
      exact (((HB9.out.setCell (by simp; omega) _).setCell (by simp; omega) _).setCell (by simp; omega) _).setCell (by simp; omega) _
    | false =>
      rw [heb] at hEb HCR
      rw [Bool.false_or] at HCR
      have hEb := Lib.hid hEb
      clear heb
      cases hec : c.emp with
      | true =>
        rw [hec] at hEc HCR
        rw [if_pos rfl] at HCR
        have HR := HCR
        have hEc := Lib.hid hEc
        clear HCR hec HC
        go_wp2_with fail
        (with_reducible refine (hEa.out _).mono ?_); rintro e w3 ⟨rfl, hb⟩
        have HB3 := Lib.hid hb
        clear hb a0 a1 a2 a3
        obtain ⟨b0, b1, b2, b3⟩ := rcell (block_up HS2.out.1.2.1 HB3.out)
        go_wp2_with fail
        (with_reducible refine (hEb.out _).mono ?_); rintro e w4 ⟨rfl, hb⟩
        have HB4 := Lib.hid (below_up HB3.out hb)
        clear hb b0 b1 b2 b3
        obtain ⟨c0, c1, c2, c3⟩ := rcell (block_up HS2.out.1.2.2.1 HB4.out)
        go_wp2_with fail
        (with_reducible refine (hEc.out _).mono ?_); rintro e w5 ⟨rfl, hb⟩
        have HBx := Lib.hid (below_up HB4.out hb)
        clear hb c0 c1 c2 c3
        go_wp2_with fail
        (with_reducible refine (HNo.out _).mono ?_); rintro e w8 ⟨rfl, hb8⟩
        have hbb := below_up HBx.out hb8
        have hq := block_up HS2.out.1.2.2.2 hbb
        have hf := free_block hq
        obtain ⟨d0, d1, d2, d3⟩ := cells4 hq
        have HB9 := Lib.hid (below_up HS2.out.2 hbb)
        clear hb8 hbb hq
        go_wp2
        refine bodyPost_ret (v := rcv ⟨1, 1, 0, 0⟩) (by simp [results, Try.results43, go_sem, rcv, d0, d1, d2, d3]) rfl ⟨by rw [← HR.out], ?_⟩
        exact (((HB9.out.setCell (by simp; omega) _).setCell (by simp; omega) _).setCell (by simp; omega) _).setCell (by simp; omega) _
      | false =>
        rw [hec] at hEc HCR
        rw [if_neg (by decide)] at HCR
        have HR := HCR
        have hEc := Lib.hid hEc
        clear HCR hec HC
        go_wp2_with fail
        (with_reducible refine (hEa.out _).mono ?_); rintro e w3 ⟨rfl, hb⟩
        have HB3 := Lib.hid hb
        clear hb a0 a1 a2 a3
        obtain ⟨b0, b1, b2, b3⟩ := rcell (block_up HS2.out.1.2.1 HB3.out)
        go_wp2_with fail
        (with_reducible refine (hEb.out _).mono ?_); rintro e w4 ⟨rfl, hb⟩
        have HB4 := Lib.hid (below_up HB3.out hb)
        clear hb b0 b1 b2 b3
        obtain ⟨c0, c1, c2, c3⟩ := rcell (block_up HS2.out.1.2.2.1 HB4.out)
        go_wp2_with fail
        (with_reducible refine (hEc.out _).mono ?_); rintro e w5 ⟨rfl, hb⟩
        have HB5 := Lib.hid (below_up HB4.out hb)
        clear hb c0 c1 c2 c3
        obtain ⟨c0, c1, c2, c3⟩ := rcell (block_up HS2.out.1.2.2.1 HB5.out)
        have hq := block_up HS2.out.1.2.2.2 HB5.out
        have hf := free_block hq
        obtain ⟨d0, d1, d2, d3⟩ := cells4 hq
        have HB9 := Lib.hid (below_up HS2.out.2 HB5.out)
        clear hq
        go_wp2
        refine bodyPost_ret (v := rcv c) (by simp [results, Try.results43, go_sem, rcv, d0, d1, d2, d3]) rfl ⟨by rw [← HR.out], ?_⟩
        exact (((HB9.out.setCell (by simp; omega) _).setCell (by simp; omega) _).setCell (by simp; omega) _).setCell (by simp; omega) _
theorem meets_ok (a b : RcS) (w : World) : Calls Try.prog 14 #[rcv a, rcv b] w fun e w' => e = .returned (.bool (RcS.meets a b)) ∧ Below w.heap.size w w' := by
  have HC := Lib.hid (fun W => cutr_ok a b W)
  unfold RcS.meets
  have HE := Lib.hid (fun W => empty_ok (RcS.cutR a b) W)
  have HB := Lib.hid (below_alloc (below_alloc1 w (.cells #[.int .u32 (a.x0 : Nat), .int .u32 (a.y0 : Nat), .int .u32 (a.x1 : Nat), .int .u32 (a.y1 : Nat)] 24)) (.cells #[.int .u32 (b.x0 : Nat), .int .u32 (b.y0 : Nat), .int .u32 (b.x1 : Nat), .int .u32 (b.y1 : Nat)] 24))
  generalize RcS.cutR a b = c at *
  obtain ⟨k, hk⟩ : ∃ k, c.emp = k := ⟨_, rfl⟩
  rw [hk] at HE ⊢
  clear hk
  obtain ⟨ax, ay, ax1, ay1⟩ := a
  obtain ⟨bx, by_, bx1, by1⟩ := b
  go_enter Try.func14, Try.ntmps14
  go_wp2_with fail
  (with_reducible refine (HC.out _).mono ?_); rintro e w1 ⟨rfl, hb⟩
  have H1 := Lib.hid (below_up HB.out hb); clear hb
  go_wp2_with fail
  (with_reducible refine (HE.out _).mono ?_); rintro e w2 ⟨rfl, hb⟩
  have H2 := Lib.hid (below_up H1.out hb); clear hb
  go_wp2
  go_ret
  exact ⟨rfl, H2.out⟩
theorem eqlRect (a b : RcS) (w : World) :
    (binOp .eql 24 (rcv a) (rcv b)).run Try.prog w = .ok (.bool (decide (a = b))) w := by
  obtain ⟨a0, a1, a2, a3⟩ := a
  obtain ⟨b0, b1, b2, b3⟩ := b
  have e : decide ((⟨a0, a1, a2, a3⟩ : RcS) = ⟨b0, b1, b2, b3⟩) = (((a0 : Int) == b0) && (((a1 : Int) == b1) && (((a2 : Int) == b2) && ((a3 : Int) == b3)))) := by
    rw [Bool.eq_iff_iff]; simp [Int.ofNat_inj]
  rw [e]
  refine eql_of (eqs_of Try.underlying24 (by kernel_rfl) ?_)
  refine eqf_cons (by rfl) (by go_simp; rfl) (by go_simp; rfl) (by go_simp) ?_
  refine eqf_cons (by rfl) (by go_simp; rfl) (by go_simp; rfl) (by go_simp) ?_
  refine eqf_cons (by rfl) (by go_simp; rfl) (by go_simp; rfl) (by go_simp) ?_
  exact eqf_last (by rfl) (by go_simp; rfl) (by go_simp; rfl) (by go_simp)
end Go.Proofs.Ytdomngpkahgoiaa.Ti
