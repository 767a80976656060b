/- The walk over slices.Backward of what waits. -/
import Derived.Test.YthpnlgdcijmocaaDk10
import Derived.RangeFuncBox
import Derived.RangeFuncNested
import Derived.RangeFuncBound
import Derived.RangeFuncCalls
import Derived.RangeFuncLeaves
import Derived.Shelf.Abstract
import Derived.Shelf.RegionOpen
import Derived.WalkKit
import Derived.OwnWalkIn
import Derived.TacticsInMore
import Derived.LoopNIn
import Derived.LoopIn
namespace Go.Proofs.Ythpnlgdcijmocaa.Dk
open Go.RowKit Go.Shelf Rg Mp
set_option linter.unusedVariables false
set_option linter.unusedSimpArgs false
attribute [local go_sem] Oper.semAt_some
/-- What has come when k rounds are over. -/
def upto {α : Type} (f : Nat → α) (k : Nat) : List α := (List.range k).map f
theorem upto_succ {α : Type} (f : Nat → α) (k : Nat) : upto f (k + 1) = upto f k ++ [f k] := by simp [upto, List.range_succ]
theorem upto_length {α : Type} (f : Nat → α) (k : Nat) : (upto f k).length = k := by simp [upto]
/-- The k-th that comes: from behind. -/
def bwd (wv : List (Nat × Value)) (k : Nat) : Nat := wv.length - 1 - k
def bwE (wv : List (Nat × Value)) (j : Nat) : Array Value := #[.int .i64 (j : Nat), .agg #[.int .i64 ((wv.getD j (0, .slice none 0 0)).1 : Nat), (wv.getD j (0, .slice none 0 0)).2]]
set_option maxRecDepth 100000 in
set_option maxHeartbeats 2000000 in
theorem bwd1_in (F : Fence) (n : Nat) (h7 : F.fn 107) (hro : F.round = none) (hn : 1 ≤ n) (l Bs n₀ : Nat) (A : Option Addr) (cap : Nat) (wv : List (Nat × Value)) (hlen : wv.length ≤ 1099511627776) (J Jx : List Nat → World → Prop)
    (hY : ∀ pre x W, J pre W → pre.length < wv.length → YieldAt F (n - 1) Try.prog l (bwE wv x) W fun e W' =>
      (e = .returned (.bool true) ∧ J (pre ++ [x]) W' ∧ Below n₀ W W') ∨ (e = .returned (.bool false) ∧ Jx (pre ++ [x]) W'))
    (W : World) (hBsn : Bs < n₀) (hBs : W.cell? ⟨Bs, 0, none⟩ = some (.slice A wv.length cap)) (hc : ∀ j, (h : j < wv.length) → ∃ gw, A = some ⟨gw, 0, none⟩ ∧ gw < n₀ ∧ W.cell? ⟨gw, j * 2, none⟩ = some (.int .i64 (wv[j].1 : Nat)) ∧ W.cell? ⟨gw, j * 2 + 1, none⟩ = some wv[j].2) (h0 : J [] W) :
    CallsIn F n Try.prog 107 #[.func (.yield l) #[] #[], .pointer (some ⟨Bs, 0, none⟩)] W fun e W' => (∃ v, e = .returned v) ∧
      ((∃ ys, ys = upto (bwd wv) wv.length ∧ J ys W') ∨ (∃ pre, (∃ k, k ≤ wv.length ∧ pre = upto (bwd wv) k) ∧ Jx pre W')) := by
  have HC := Lib.hid hc
  have HBs := Lib.hid (And.intro hBsn hBs)
  have b0 := hBs
  have HY := Lib.hid hY
  have kw : IntKind.i64.wrap ((wv.length : Int) - 1) = (wv.length : Int) - 1 := by rw [IntWalk.i64_in _ (by omega)]
  clear hc hBs hBsn hY
  refine callsIn_of_wp Try.func107 rfl h7 ?_ hro
  simp only [Try.ntmps107, List.size_toArray, List.length_cons, List.length_nil, Nat.reduceAdd, Nat.reduceSub, Array.replicate_succ, Array.replicate_zero, List.push_toArray, List.append_toArray, List.nil_append, List.cons_append]
  gi_wp2
  clear b0
  gi_loopw [3] (fun i wr => ∃ k : Nat, k ≤ wv.length ∧ i = .int .i64 ((wv.length : Int) - 1 - k) ∧ J (upto (bwd wv) k) wr ∧ Below n₀ W wr)
    (fun i _ => (intOf i + 1).toNat)
  case atStart => exact ⟨0, Nat.zero_le _, by simp, h0, Below.refl _ _⟩
  case round =>
    obtain ⟨k, hk, rfl, hJs, hnx⟩ := hrel
    by_cases hlt : k < wv.length
    · obtain ⟨j, hj⟩ : ∃ j : Nat, (j : Int) = (wv.length : Int) - 1 - k := ⟨wv.length - 1 - k, by omega⟩
      have hjl : j < wv.length := by omega
      obtain ⟨gw, rfl, hgw, hc0, hc1⟩ := HC.out j hjl
      have hjk : wv.length - 1 - k = j := by omega
      have hbw : bwd wv k = j := hjk
      have hgd : wv.getD j (0, .slice none 0 0) = wv[j] := by rw [List.getD_eq_getElem?_getD, List.getElem?_eq_getElem hjl]; rfl
      have hup := upto_succ (bwd wv) k
      rw [hbw] at hup
      obtain ⟨fn, tmps, assign, body, hy, hR⟩ := HY.out _ j wr hJs (by rw [upto_length]; exact hlt)
      unfold bwE at hy
      rw [hgd] at hy
      have z0 := (hnx.cell (p := ⟨gw, j * 2, none⟩) hgw).trans hc0
      have z1 := (hnx.cell (p := ⟨gw, j * 2 + 1, none⟩) hgw).trans hc1
      have b0 := (hnx.cell (p := ⟨Bs, 0, none⟩) HBs.out.1).trans HBs.out.2
      rw [← hj]
      have HUp := Lib.hid hup
      have HJk := Lib.hid (And.intro hj hjk)
      have kd : decide ((0 : Int) ≤ (j : Int)) = true := decide_eq_true (by omega)
      have bj : (j : Int) < wv.length := by omega
      have kwj : IntKind.i64.wrap ((j : Int) - 1) = (j : Int) - 1 := by rw [IntWalk.i64_in _ (by omega)]
      generalize hx : wv[j] = x at *
      obtain ⟨xa, xv⟩ := x
      simp only at z0 z1 hy
      clear hc0 hc1 hbw hup hj hjk hgd hx
      gi_wp2
      refine hR.mono ?_
      rintro e W3 (⟨rfl, hJ3, hk3⟩ | ⟨rfl, hJx3⟩)
      · gi_wp2
        go_roundw
        case rel => exact ⟨k + 1, by omega, by have := HJk.out.1; simp; omega, by rw [HUp.out]; exact hJ3, hnx.trans hk3⟩
        case measure => simp [intOf]
      · gi_wp2
        refine bodyPost_ret (results_none rfl _ _ _) rfl ?_
        exact ⟨⟨_, rfl⟩, .inr ⟨_, ⟨k + 1, by omega, HUp.out.symm⟩, hJx3⟩⟩
    · obtain rfl : k = wv.length := by omega
      rw [show (wv.length : Int) - 1 - (wv.length : Int) = -1 by omega]
      gi_wp2
      go_end0
      exact ⟨⟨_, rfl⟩, .inl ⟨_, rfl, hJs⟩⟩
set_option maxHeartbeats 1000000 in
theorem bwd_in (F : Fence) (n : Nat) (h5 : F.fn 78) (hro : F.round = none) (a : Option Addr) (len cap : Nat) (w : World) :
    CallsIn F n Try.prog 78 #[.slice a len cap] w fun e w' => e = .returned (.func (.func 107) #[] #[.pointer (some ⟨w.heap.size, 0, none⟩)]) ∧ w' = w.alloc (.cells #[.slice a len cap] 112) := by
  refine callsIn_of_wp Try.func78 rfl h5 ?_ hro
  simp only [Try.ntmps78, List.size_toArray, List.length_cons, List.length_nil, Nat.reduceAdd, Nat.reduceSub, Array.replicate_succ, Array.replicate_zero, List.push_toArray, List.append_toArray, List.nil_append, List.cons_append]
  gi_wp2
  go_ret
  exact ⟨rfl, rfl⟩
/-- What waits comes from behind: all of it, or the last ones. -/
theorem bwd_stops (F : Fence) (n : Nat) (h8 : F.fn 107) (hro : F.round = none) (hn : 1 ≤ n) (Bs n₀ : Nat) (A : Option Addr) (cap : Nat) (wv : List (Nat × Value)) (hlen : wv.length ≤ 1099511627776) (w : World) (hBs : Bs < n₀) (hn₀ : n₀ ≤ w.heap.size)
    (hcell : w.cell? ⟨Bs, 0, none⟩ = some (.slice A wv.length cap)) (hc : ∀ j, (h : j < wv.length) → ∃ gw, A = some ⟨gw, 0, none⟩ ∧ gw < n₀ ∧ w.cell? ⟨gw, j * 2, none⟩ = some (.int .i64 (wv[j].1 : Nat)) ∧ w.cell? ⟨gw, j * 2 + 1, none⟩ = some wv[j].2) :
    SeqStopsK F n Try.prog 107 #[.pointer (some ⟨Bs, 0, none⟩)] (bwE wv) (Below n₀) (fun ys => ys = upto (bwd wv) wv.length) (fun pre => ∃ k, k ≤ wv.length ∧ pre = upto (bwd wv) k) wv.length w := fun l J Jx W hW _ _ hY h0 => by
  have hb : Below n₀ w W := hW.mono hn₀
  exact bwd1_in F n h8 hro hn l Bs n₀ A cap wv hlen J Jx hY W hBs ((hb.cell (p := ⟨Bs, 0, none⟩) hBs).trans hcell) (fun j h => by
    obtain ⟨gw, e, h1, h2, h3⟩ := hc j h
    exact ⟨gw, e, h1, (hb.cell (p := ⟨gw, j * 2, none⟩) h1).trans h2, (hb.cell (p := ⟨gw, j * 2 + 1, none⟩) h1).trans h3⟩) h0
end Go.Proofs.Ythpnlgdcijmocaa.Dk
