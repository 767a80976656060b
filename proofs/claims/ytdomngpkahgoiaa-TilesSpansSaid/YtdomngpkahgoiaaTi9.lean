/- The walks over tiles.begin, tiles.end, croftlaw41.near. -/
import Derived.Test.YtdomngpkahgoiaaTi5
namespace Go.Proofs.Ytdomngpkahgoiaa.Ti
open Go.RowKit Rg St Zw
set_option linter.unusedVariables false
set_option linter.unusedSimpArgs false
def begC (c : CeS) : Nat := Zm.joinN c.x c.y
def endC (c : CeS) : Nat := Zm.joinN c.rect.x1 c.rect.y1
set_option maxHeartbeats 2000000 in
theorem begin_ok (c : CeS) (w : World) (h : c.fine) : Calls Try.prog 46 #[cev c] w fun e w' => e = .returned (.int .u64 (begC c : Nat)) ∧ Below w.heap.size w w' := by
  have HJ := Lib.hid (fun W => join_ok c.x c.y W h.1 h.2.1)
  have hq := alloc_at (w := w) (.cells #[.int .u32 (c.x : Nat), .int .u32 (c.y : Nat), .int .i64 c.l] 32) rfl
  have HB := Lib.hid (below_alloc1 w (.cells #[.int .u32 (c.x : Nat), .int .u32 (c.y : Nat), .int .i64 c.l] 32))
  have c0 := ccell hq
  clear hq h
  unfold begC
  generalize Zm.joinN c.x c.y = J at *
  go_enter Try.func46, Try.ntmps46
  go_wp2_with fail
  (with_reducible refine (HJ.out _).mono ?_); rintro e w1 ⟨rfl, hw1⟩
  subst hw1
  go_wp2
  go_ret
  exact ⟨rfl, HB.out⟩
set_option maxHeartbeats 2000000 in
theorem end_ok (c : CeS) (w : World) (h : c.fine) : Calls Try.prog 47 #[cev c] w fun e w' => e = .returned (.int .u64 (endC c : Nat)) ∧ Below w.heap.size w w' := by
  have HR := Lib.hid (fun W => rectc_ok c W h)
  have hf := rect_fine h
  have HJ := Lib.hid (fun W => join_ok c.rect.x1 c.rect.y1 W hf.2.2.1 hf.2.2.2)
  have hq := alloc_at (w := w) (.cells #[.int .u32 (c.x : Nat), .int .u32 (c.y : Nat), .int .i64 c.l] 32) rfl
  have HB := Lib.hid (below_alloc1 w (.cells #[.int .u32 (c.x : Nat), .int .u32 (c.y : Nat), .int .i64 c.l] 32))
  have c0 := ccell hq
  clear hq h hf
  unfold endC
  generalize Zm.joinN c.rect.x1 c.rect.y1 = J at *
  generalize c.rect = R at *
  go_enter Try.func47, Try.ntmps47
  go_wp2_with fail
  (with_reducible refine (HR.out _).mono ?_); rintro e w1 ⟨rfl, hb⟩
  have HB1 := Lib.hid (below_up (below_up HB.out hb) (below_alloc1 w1 (.cells #[.int .u32 (R.x0 : Nat), .int .u32 (R.y0 : Nat), .int .u32 (R.x1 : Nat), .int .u32 (R.y1 : Nat)] 24)))
  have q0 := rcell (alloc_at (w := w1) (.cells #[.int .u32 (R.x0 : Nat), .int .u32 (R.y0 : Nat), .int .u32 (R.x1 : Nat), .int .u32 (R.y1 : Nat)] 24) rfl)
  clear hb c0
  go_wp2_with fail
  (with_reducible refine (HJ.out _).mono ?_); rintro e w2 ⟨rfl, hw2⟩
  subst hw2
  go_wp2
  go_ret
  exact ⟨rfl, HB1.out⟩
set_option maxHeartbeats 2000000 in
theorem near_ok (n : Int) (w : World) (h : -9223372036854775808 ≤ n ∧ n ≤ 9223372036854775807) : Calls Try.prog 10 #[.int .i64 n] w fun e w' => ∃ k : Nat, e = .returned (.int .i64 (k : Nat)) ∧ (k : Int) = min (max n 1) 20 ∧ w' = w := by
  obtain ⟨k, hk⟩ : ∃ k : Nat, (k : Int) = min (max n 1) 20 := ⟨(min (max n 1) 20).toNat, by omega⟩
  go_enter Try.func10, Try.ntmps10
  go_wp2
  all_goals (go_ret; refine ⟨k, ret_int ?_, hk, rfl⟩; first | omega | (split <;> omega) | (split <;> split <;> omega) | trace_state)
end Go.Proofs.Ytdomngpkahgoiaa.Ti
