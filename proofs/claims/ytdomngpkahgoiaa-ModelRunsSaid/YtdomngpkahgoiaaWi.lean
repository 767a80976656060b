/- The walks over package wide: squares of distances. -/
import Derived.Test.YtdomngpkahgoiaaCmpO
import Derived.Test.YtdomngpkahgoiaaSl
import Derived.Test.YtdomngpkahgoiaaRg
import Derived.Shelf.Bits.Mul64
import Derived.Laws.Externs
import Derived.Deep.DeepCutAuto
import Derived.Deep.RegionHeld3
namespace Go.Proofs.Ytdomngpkahgoiaa.Wi
open Go.RowKit Go.Lib Rg
set_option linter.unusedVariables false
set_option linter.unusedSimpArgs false
def loN (x y c : Nat) : Nat := (x + y + c) % 18446744073709551616
def hiN (x y c : Nat) : Nat := (x + y + c) / 18446744073709551616
theorem add64_run (x y c : Nat) (hc : c ≤ 1) (W : World) :
    (callFunc 94 #[.int .u64 (x : Nat), .int .u64 (y : Nat), .int .u64 (c : Nat)]).run Try.prog W = .ok (.value (.tuple #[.int .u64 (loN x y c : Nat), .int .u64 (hiN x y c : Nat)])) W := by
  rw [run_callFunc_extern Try.func94 (by kernel_rfl) (by kernel_rfl) (by kernel_rfl) (e := add64Entry) (by kernel_rfl), run_add64 x y c (by omega) (by omega) (by omega) (by omega)]
  simp only [Result.andThen]
  unfold loN hiN
  congr 5 <;> omega
set_option maxHeartbeats 1000000 in
theorem mul64_ok (x y : Nat) (hx : x < 18446744073709551616) (hy : y < 18446744073709551616) (w : World) :
    Calls Try.prog 91 #[.int .u64 x, .int .u64 y] w fun e w' => e = .returned (.tuple #[.int .u64 ((x * y / 18446744073709551616 : Nat) : Int), .int .u64 ((x * y % 18446744073709551616 : Nat) : Int)]) ∧ w' = w := by
  obtain ⟨bd, bt, bw, hhi⟩ := Lib.mul64_hi x y hx hy
  have ba := Lib.half_mul_le (a := x / 4294967296) (b := y / 4294967296) (by omega) (by omega)
  have bb := Lib.half_mul_le (a := x / 4294967296) (b := y % 4294967296) (by omega) (by omega)
  have bc := Lib.half_mul_le (a := x % 4294967296) (b := y / 4294967296) (by omega) (by omega)
  have ba' : x / 4294967296 * (y / 4294967296) < 18446744073709551616 := by omega
  have bb' : x / 4294967296 * (y % 4294967296) < 18446744073709551616 := by omega
  have bc' : x % 4294967296 * (y / 4294967296) < 18446744073709551616 := by omega
  have bh1 : x / 4294967296 * (y / 4294967296) + (x / 4294967296 * (y % 4294967296) + x % 4294967296 * (y % 4294967296) / 4294967296) / 4294967296 < 18446744073709551616 := by omega
  have bh : x / 4294967296 * (y / 4294967296) + (x / 4294967296 * (y % 4294967296) + x % 4294967296 * (y % 4294967296) / 4294967296) / 4294967296 + ((x / 4294967296 * (y % 4294967296) + x % 4294967296 * (y % 4294967296) / 4294967296) % 4294967296 + x % 4294967296 * (y / 4294967296)) / 4294967296 < 18446744073709551616 := by omega
  go_enter Try.func91, Try.ntmps91
  go_wp2
  simp only [Mul64.maskN x hx, Mul64.maskN y hy, Mul64.divN, Mul64.mulN, Mul64.addN, Mul64.wrapN _ bd, Mul64.wrapN _ bb', Mul64.wrapN _ bt, Mul64.maskN _ bt, Mul64.wrapN _ bc', Mul64.wrapN _ bw, Mul64.wrapN _ ba', Mul64.wrapN _ bh1, Mul64.wrapN _ bh, Mul64.wrapM]
  rw [hhi]
  go_ret2
  exact ⟨rfl, rfl⟩
/-- A distance's value. -/
def dv (D : Nat) : Value := .agg #[.int .u64 ((D / 18446744073709551616 : Nat) : Int), .int .u64 ((D % 18446744073709551616 : Nat) : Int)]
def gapN (a b : Nat) : Nat := max a b - min a b
theorem gap_ok (a b : Nat) (ha : a < 4294967296) (hb : b < 4294967296) (w : World) : Calls Try.prog 84 #[.int .u32 (a : Nat), .int .u32 (b : Nat)] w fun e w' => e = .returned (.int .u32 (gapN a b : Nat)) ∧ w = w' := by
  rcases Nat.le_total a b with h | h
  · have e : gapN a b = b - a := by unfold gapN; omega
    rw [e]
    go_enter Try.func84, Try.ntmps84
    go_wp2
    all_goals (go_ret; exact ⟨ret_int (by omega), rfl⟩)
  · have e : gapN a b = a - b := by unfold gapN; omega
    rw [e]
    go_enter Try.func84, Try.ntmps84
    go_wp2
    all_goals (go_ret; exact ⟨ret_int (by omega), rfl⟩)
theorem square_ok (n : Nat) (hn : n < 4294967296) (w : World) : Calls Try.prog 83 #[.int .u32 (n : Nat)] w fun e w' => e = .returned (dv (n * n)) ∧ Below w.heap.size w w' := by
  have HM := Lib.hid (fun W => mul64_ok n n (by omega) (by omega) W)
  unfold dv
  obtain ⟨h, hh⟩ : ∃ x, n * n / 18446744073709551616 = x := ⟨_, rfl⟩
  obtain ⟨l, hl⟩ : ∃ x, n * n % 18446744073709551616 = x := ⟨_, rfl⟩
  rw [hh, hl] at HM ⊢
  clear hh hl
  go_enter Try.func83, Try.ntmps83
  go_wp2_with fail
  (with_reducible refine (HM.out _).mono ?_); rintro e w1 ⟨rfl, rfl⟩
  go_wp2
  refine bodyPost_ret (v := .agg #[.int .u64 (h : Nat), .int .u64 (l : Nat)]) (by simp [results, Try.results83, go_sem]) rfl ⟨rfl, ?_⟩
  exact below_alloc1 _ _
/-- The sum of two. -/
theorem dv_add (A B : Nat) (h : A + B < 340282366920938463463374607431768211456) : loN (A / 18446744073709551616) (B / 18446744073709551616) (hiN (A % 18446744073709551616) (B % 18446744073709551616) 0) = (A + B) / 18446744073709551616 ∧ loN (A % 18446744073709551616) (B % 18446744073709551616) 0 = (A + B) % 18446744073709551616 ∧ hiN (A % 18446744073709551616) (B % 18446744073709551616) 0 ≤ 1 := by
  unfold loN hiN; omega
set_option maxHeartbeats 1000000 in
theorem wadd_ok (A B : Nat) (hs : A + B < 340282366920938463463374607431768211456) (w : World) : Calls Try.prog 90 #[dv A, dv B] w fun e w' => e = .returned (dv (A + B)) ∧ Below w.heap.size w w' := by
  obtain ⟨e1, e2, e3⟩ := dv_add A B hs
  unfold dv
  obtain ⟨a, ha⟩ : ∃ x, A / 18446744073709551616 = x := ⟨_, rfl⟩
  obtain ⟨b, hb⟩ : ∃ x, A % 18446744073709551616 = x := ⟨_, rfl⟩
  obtain ⟨c, hc⟩ : ∃ x, B / 18446744073709551616 = x := ⟨_, rfl⟩
  obtain ⟨d, hd⟩ : ∃ x, B % 18446744073709551616 = x := ⟨_, rfl⟩
  obtain ⟨x, hx⟩ : ∃ x, (A + B) / 18446744073709551616 = x := ⟨_, rfl⟩
  obtain ⟨y, hy⟩ : ∃ x, (A + B) % 18446744073709551616 = x := ⟨_, rfl⟩
  rw [ha, hb, hc, hd] at e1
  rw [hb, hd] at e2 e3
  rw [ha, hb, hc, hd, hx, hy]
  rw [hx] at e1
  rw [hy] at e2
  clear hs ha hb hc hd hx hy
  obtain ⟨k, hk⟩ : ∃ k, hiN b d 0 = k := ⟨_, rfl⟩
  rw [hk] at e1 e3
  have r1 := fun W => add64_run b d 0 (by decide) W
  have r2 := fun W => add64_run a c k e3 W
  obtain ⟨k2, hk2⟩ : ∃ k2, hiN a c k = k2 := ⟨_, rfl⟩
  simp only [hk, e2] at r1
  simp only [e1, hk2] at r2
  rw [show ((0 : Nat) : Int) = 0 from rfl] at r1
  clear e1 e2 e3 hk hk2
  go_enter Try.func90, Try.ntmps90
  go_wp2
  refine bodyPost_ret (v := .agg #[.int .u64 (x : Nat), .int .u64 (y : Nat)]) (by simp [results, Try.results90, go_sem]) rfl ⟨rfl, ?_⟩
  exact below_alloc (below_alloc (below_alloc1 _ _) _) _
def dc (D : Nat) : List Value := [.int .u64 ((D / 18446744073709551616 : Nat) : Int), .int .u64 ((D % 18446744073709551616 : Nat) : Int)]
theorem dc_len (D : Nat) : (dc D).length = 2 := rfl
/-- One struct of two cells, of one's own. -/
theorem own_two {W : World} {B g : Nat} {t : TypeId} {a b : Value} (hb : B ≤ g) (h : W.heap[g]? = some (.cells #[a, b] t (0, 0))) : W.ownsRow B t 2 (.slice (some ⟨g, 0, none⟩) 1 1) 1 [a, b] :=
  ⟨rfl, .inr ⟨g, 1, #[a, b], rfl, hb, h, Nat.le_refl _, by decide, rfl, rfl⟩⟩
theorem two_at {W : World} {B g : Nat} {t : TypeId} {a b : Value} (h : W.ownsRow B t 2 (.slice (some ⟨g, 0, none⟩) 1 1) 1 [a, b]) : (W.cell? ⟨g, 0, none⟩ = some a ∧ W.cell? ⟨g, 1, none⟩ = some b) ∧ ∀ j, W.frozen? ⟨g, j, none⟩ = false := by
  have hc := h.cells (g := g) rfl
  obtain ⟨cs, hcs⟩ := own_typed h g rfl
  exact ⟨⟨hc 0 a rfl, hc 1 b rfl⟩, free_block hcs⟩
theorem own_set2 {W : World} {B g : Nat} {t : TypeId} {a b : Value} (h : W.ownsRow B t 2 (.slice (some ⟨g, 0, none⟩) 1 1) 1 [a, b]) (c d : Value) : ((W.setCell ⟨g, 0, none⟩ c).setCell ⟨g, 1, none⟩ d).ownsRow B t 2 (.slice (some ⟨g, 0, none⟩) 1 1) 1 [c, d] := by
  have h1 := (h.stored 0 c).1
  exact (h1.stored 1 d).1
set_option maxHeartbeats 2000000 in
set_option maxRecDepth 100000 in
theorem sum_ok (v : Value) (l : List Nat) (w : World) (hv : SRd 2 dc w v l) (hl : l.length ≤ 100) (hs : l.sum < 340282366920938463463374607431768211456) : Calls Try.prog 82 #[v] w fun e w' => e = .returned (dv l.sum) ∧ Below w.heap.size w w' := by
  have HV := Lib.hid hv
  have HS := Lib.hid hs
  have HA := Lib.hid (fun A B h W => wadd_ok A B h W)
  obtain ⟨A, c, rfl, hc, _⟩ := hv
  clear hs
  have q1 := alloc_at (w := w) (.cells #[.int .u64 0, .int .u64 0] 103) rfl
  have hz1 : (w.alloc (.cells #[.int .u64 0, .int .u64 0] 103)).heap.size = w.heap.size + 1 := by unfold World.alloc; simp
  have q2 := alloc_at (w := w.alloc (.cells #[.int .u64 0, .int .u64 0] 103)) (.cells #[.int .u64 0, .int .u64 0] 103) hz1.symm
  have q3 := alloc_old q1 (.cells #[.int .u64 0, .int .u64 0] 103)
  have hb := below_alloc (below_alloc1 w (.cells #[.int .u64 0, .int .u64 0] 103)) (.cells #[.int .u64 0, .int .u64 0] 103)
  have H0 := Lib.hid (And.intro (own_two (B := w.heap.size) (Nat.le_refl _) q3) (And.intro (own_two (B := w.heap.size + 1) (Nat.le_refl _) q2) hb))
  clear q1 q2 q3 hb hz1
  unfold dv
  obtain ⟨t1, ht1⟩ : ∃ x, l.sum / 18446744073709551616 = x := ⟨_, rfl⟩
  obtain ⟨t2, ht2⟩ : ∃ x, l.sum % 18446744073709551616 = x := ⟨_, rfl⟩
  rw [ht1, ht2]
  have HTT := Lib.hid (And.intro ht1 ht2)
  clear ht1 ht2
  go_enter Try.func82, Try.ntmps82
  go_wp2_with fail
  go_loopw [8] (fun vi W' => ∃ k : Nat, vi = .int .i64 k ∧ k ≤ l.length ∧ W'.ownsRow w.heap.size 103 2 (.slice (some ⟨w.heap.size, 0, none⟩) 1 1) 1 [.int .u64 0, .int .u64 0] ∧ W'.ownsRow (w.heap.size + 1) 103 2 (.slice (some ⟨w.heap.size + 1, 0, none⟩) 1 1) 1 (dc (l.take k).sum) ∧ Below w.heap.size w W') (fun vi _ => l.length - (intOf vi).toNat)
  case atStart => exact ⟨0, rfl, Nat.zero_le _, H0.out.1, by have := H0.out.2.1; simpa [dc] using this, H0.out.2.2⟩
  case round =>
  obtain ⟨k, rfl, hk, hr, hq, hb⟩ := hrel
  have HR := Lib.hid (And.intro hr (And.intro hq hb))
  clear hr hq hb
  by_cases hlt : k < l.length
  · have d : decide (k < l.length) = true := decide_eq_true hlt
    have di : decide ((k : Int) < l.length) = true := decide_eq_true (by omega)
    have bk : (k : Int) < l.length := by omega
    obtain ⟨g, o, rfl, _, hcc⟩ := (HV.out.below HR.out.2.2).get dc_len (by decide) hlt
    have c0 := hcc 0 (by decide)
    have c1 := hcc 1 (by decide)
    have hts : (l.take (k + 1)).sum = (l.take k).sum + l[k] := by rw [List.take_succ_eq_append_getElem hlt, List.sum_append]; simp
    have hlb : (l.take k).sum + l[k] < 340282366920938463463374607431768211456 := by
      have h1 : (l.take (k + 1)).sum + (l.drop (k + 1)).sum = l.sum := by rw [← List.sum_append, List.take_append_drop]
      have := HS.out
      omega
    clear hcc
    generalize l[k] = B at *
    obtain ⟨S, hS⟩ : ∃ S, (l.take k).sum = S := ⟨_, rfl⟩
    rw [hS] at HR hts hlb
    have HT := Lib.hid hts
    have HAdd := Lib.hid (fun W => HA.out S B hlb W)
    clear hts hS hlb
    unfold dv at HAdd
    simp only [dc, Nat.add_zero, List.getElem?_cons_zero, List.getElem?_cons_succ] at c0 c1
    have hq := HR.out.2.1
    unfold dc at hq
    obtain ⟨⟨d0, d1⟩, fz⟩ := two_at hq
    have HQ := Lib.hid hq
    clear hq
    obtain ⟨s1, hs1⟩ : ∃ x, S / 18446744073709551616 = x := ⟨_, rfl⟩
    obtain ⟨s2, hs2⟩ : ∃ x, S % 18446744073709551616 = x := ⟨_, rfl⟩
    obtain ⟨b1, hb1⟩ : ∃ x, B / 18446744073709551616 = x := ⟨_, rfl⟩
    obtain ⟨b2, hb2⟩ : ∃ x, B % 18446744073709551616 = x := ⟨_, rfl⟩
    rw [hs1] at HAdd d0 HQ
    rw [hs2] at HAdd d1 HQ
    rw [hb1] at HAdd c0
    rw [hb2] at HAdd c1
    clear hs1 hs2 hb1 hb2
    obtain ⟨r1, hr1⟩ : ∃ x, (S + B) / 18446744073709551616 = x := ⟨_, rfl⟩
    obtain ⟨r2, hr2⟩ : ∃ x, (S + B) % 18446744073709551616 = x := ⟨_, rfl⟩
    rw [hr1, hr2] at HAdd
    have HE := Lib.hid (And.intro hr1 hr2)
    clear hr1 hr2
    have d0' := cell_alloc d0 (.cells #[.int .u64 (b1 : Nat), .int .u64 (b2 : Nat)] 103)
    have d1' := cell_alloc d1 (.cells #[.int .u64 (b1 : Nat), .int .u64 (b2 : Nat)] 103)
    go_wp2_with fail
    (with_reducible refine (HAdd.out _).mono ?_); rintro e w2 ⟨rfl, hb⟩
    clear d0 d1 d0' d1' fz
    have hb2 := below_up (below_alloc1 wr (.cells #[.int .u64 (b1 : Nat), .int .u64 (b2 : Nat)] 103)) hb
    have HQ2 := Lib.hid (own_below HQ.out hb2)
    have HR2 := Lib.hid (own_below HR.out.1 hb2)
    have HB2 := Lib.hid (below_up HR.out.2.2 hb2)
    obtain ⟨⟨d0, d1⟩, fz⟩ := two_at HQ2.out
    clear hb hb2
    go_wp2
    exact ⟨⟨k + 1, by go_num, by omega, own_set (own_set HR2.out (by simp [Value.ownBlock]) _) (by simp [Value.ownBlock]) _, by
      rw [HT.out, dc, HE.out.1, HE.out.2]; exact own_set2 HQ2.out _ _, (HB2.out.setCell (by simp) _).setCell (by simp) _⟩, by simp [intOf]; omega⟩
  · obtain rfl : k = l.length := by omega
    have d : decide (l.length < l.length) = false := decide_eq_false (by omega)
    have di : decide ((l.length : Int) < l.length) = false := decide_eq_false (by omega)
    have hq := HR.out.2.1
    rw [List.take_length] at hq
    unfold dc at hq
    rw [HTT.out.1, HTT.out.2] at hq
    obtain ⟨⟨d0, d1⟩, fz⟩ := two_at hq
    obtain ⟨⟨e0, e1⟩, fz2⟩ := two_at HR.out.1
    have HB := Lib.hid HR.out.2.2
    clear hq
    go_wp2
    refine bodyPost_ret (v := .agg #[.int .u64 (t1 : Nat), .int .u64 (t2 : Nat)]) (by simp [results, Try.results82, go_sem, e0, e1]) rfl ⟨rfl, ?_⟩
    exact (HB.out.setCell (by simp) _).setCell (by simp) _
theorem gap_lt {a b : Nat} (ha : a < 4294967296) (hb : b < 4294967296) : gapN a b < 4294967296 := by unfold gapN; omega
/-- The square of the distance of two places. -/
def dist (x0 y0 x1 y1 : Nat) : Nat := gapN x0 x1 * gapN x0 x1 + gapN y0 y1 * gapN y0 y1
theorem sq_le {n : Nat} (h : n < 4294967296) : n * n ≤ 18446744065119617025 := Nat.mul_le_mul (show n ≤ 4294967295 by omega) (show n ≤ 4294967295 by omega)
set_option maxHeartbeats 2000000 in
set_option maxRecDepth 100000 in
theorem between_ok (x0 y0 x1 y1 : Nat) (h0 : x0 < 4294967296) (h1 : y0 < 4294967296) (h2 : x1 < 4294967296) (h3 : y1 < 4294967296) (w : World) :
    Calls Try.prog 69 #[.int .u32 (x0 : Nat), .int .u32 (y0 : Nat), .int .u32 (x1 : Nat), .int .u32 (y1 : Nat)] w fun e w' => e = .returned (dv (dist x0 y0 x1 y1)) ∧ Below w.heap.size w w' := by
  have HG1 := Lib.hid (fun W => gap_ok x0 x1 h0 h2 W)
  have HG2 := Lib.hid (fun W => gap_ok y0 y1 h1 h3 W)
  have g1 := gap_lt h0 h2
  have g2 := gap_lt h1 h3
  unfold dist
  generalize gapN x0 x1 = p at *
  generalize gapN y0 y1 = q at *
  have HQ1 := Lib.hid (fun W => square_ok p g1 W)
  have HQ2 := Lib.hid (fun W => square_ok q g2 W)
  have s1 := sq_le g1
  have s2 := sq_le g2
  clear g1 g2
  generalize p * p = P at *
  generalize q * q = R at *
  have hsum : [P, R].sum < 340282366920938463463374607431768211456 := by simp; omega
  have HS := Lib.hid (fun (v : Value) W (hv : SRd 2 dc W v [P, R]) => sum_ok v [P, R] W hv (by simp) hsum)
  rw [show [P, R].sum = P + R by simp] at HS
  have HW := Lib.hid (below_alloc1 w (.cells #[.int .u64 0, .int .u64 0] 103))
  have HO := Lib.hid (own_two (B := w.heap.size) (Nat.le_refl _) (alloc_at (w := w) (.cells #[.int .u64 0, .int .u64 0] 103) rfl))
  clear s1 s2 hsum
  unfold dv at *
  obtain ⟨p1, hp1⟩ : ∃ x, P / 18446744073709551616 = x := ⟨_, rfl⟩
  obtain ⟨p2, hp2⟩ : ∃ x, P % 18446744073709551616 = x := ⟨_, rfl⟩
  obtain ⟨r1, hr1⟩ : ∃ x, R / 18446744073709551616 = x := ⟨_, rfl⟩
  obtain ⟨r2, hr2⟩ : ∃ x, R % 18446744073709551616 = x := ⟨_, rfl⟩
  obtain ⟨z1, hz1⟩ : ∃ x, (P + R) / 18446744073709551616 = x := ⟨_, rfl⟩
  obtain ⟨z2, hz2⟩ : ∃ x, (P + R) % 18446744073709551616 = x := ⟨_, rfl⟩
  rw [hp1, hp2] at HQ1
  rw [hr1, hr2] at HQ2
  rw [hz1, hz2] at HS
  rw [hz1, hz2]
  have HE := Lib.hid (And.intro hp1 (And.intro hp2 (And.intro hr1 hr2)))
  clear hp1 hp2 hr1 hr2 hz1 hz2
  go_enter Try.func69, Try.ntmps69
  go_upto_region 1 with (fail)
  generalize (World.alloc w _) = W0 at *
  go_wp2_with fail
  (with_reducible refine (HG1.out _).mono ?_); rintro e w1 ⟨rfl, rfl⟩
  go_wp2_with fail
  (with_reducible refine (HQ1.out _).mono ?_); rintro e w2 ⟨rfl, hb2⟩
  have H2 := Lib.hid hb2; clear hb2
  go_wp2_with fail
  (with_reducible refine (HG2.out _).mono ?_); rintro e w3 ⟨rfl, rfl⟩
  go_wp2_with fail
  (with_reducible refine (HQ2.out _).mono ?_); rintro e w4 ⟨rfl, hb4⟩
  have H4 := Lib.hid (below_up H2.out hb4); clear hb4
  go_wp2_with fail
  have hi : SRd 2 dc (w4.alloc (.cells #[.int .u64 (p1 : Nat), .int .u64 (p2 : Nat), .int .u64 (r1 : Nat), .int .u64 (r2 : Nat)] 103)) (.slice (some ⟨w4.heap.size, 0, none⟩) 2 2) [P, R] := by
    have := own_new w4 w4.heap.size 103 2 2 #[.int .u64 (p1 : Nat), .int .u64 (p2 : Nat), .int .u64 (r1 : Nat), .int .u64 (r2 : Nat)] (Nat.le_refl _) (by decide) rfl
    refine srd_own dc_len (by decide) (base := w4.heap.size) (n := 2) (e := 103) ?_
    simp only [List.flatMap_cons, List.flatMap_nil, dc, HE.out.1, HE.out.2.1, HE.out.2.2.1, HE.out.2.2.2]
    exact this
  have H5 := Lib.hid (below_alloc H4.out (.cells #[.int .u64 (p1 : Nat), .int .u64 (p2 : Nat), .int .u64 (r1 : Nat), .int .u64 (r2 : Nat)] 103))
  have HS5 := Lib.hid (HS.out _ _ hi)
  clear hi
  (with_reducible refine HS5.out.mono ?_); rintro e w6 ⟨rfl, hb6⟩
  have H6 := Lib.hid (below_up H5.out hb6); clear hb6
  obtain ⟨⟨e0, e1⟩, fz⟩ := two_at (own_below HO.out H6.out)
  go_wp2
  refine bodyPost_ret (v := .agg #[.int .u64 (z1 : Nat), .int .u64 (z2 : Nat)]) (by simp [results, Try.results69, go_sem, e0, e1]) rfl ⟨rfl, ?_⟩
  exact ((below_up HW.out H6.out).setCell (Nat.le_refl _) _).setCell (Nat.le_refl _) _
end Go.Proofs.Ytdomngpkahgoiaa.Wi
