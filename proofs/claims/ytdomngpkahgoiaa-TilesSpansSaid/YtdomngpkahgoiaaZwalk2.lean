/- The walks over package zorder's and package cell's functions, further. -/
import Derived.Test.YtdomngpkahgoiaaZwalk
import Derived.Test.YtdomngpkahgoiaaBase
import Derived.Deep.RegionHeld3
namespace Go.Proofs.Ytdomngpkahgoiaa.Zw
open Go.RowKit
set_option linter.unusedVariables false
set_option linter.unusedSimpArgs false
set_option maxHeartbeats 1000000 in
theorem at_ok (x y : Nat) (L : Int) (w : World) (hx : x < 4294967296) (hy : y < 4294967296) (h1 : -9223372036854775808 ≤ L) (h2 : L ≤ 9223372036854775807) :
    Calls Try.prog 16 #[.int .u32 x, .int .u32 y, .int .i64 L] w fun e w' => e = .returned (.agg #[.int .u32 (cut (lv L) x : Nat), .int .u32 (cut (lv L) y : Nat), .int .i64 (lv L : Nat)]) ∧ Below w.heap.size w w' := by
  go_enter Try.func16, Try.ntmps16
  go_wp2_with fail
  refine (fix_ok x y L _ hx hy h1 h2).mono ?_; rintro e w1 ⟨rfl, hb⟩
  have hz := hb.size
  simp at hz
  obtain ⟨hc, hf⟩ := bcell hb
  go_wp2_with fail
  refine bodyPost_ret (v := .agg #[.int .u32 (cut (lv L) x : Nat), .int .u32 (cut (lv L) y : Nat), .int .i64 (lv L : Nat)]) (by simp [results, Try.results16, go_sem, hc, hz]) rfl ⟨rfl, ?_⟩
  exact ((((Below.refl _ _).alloc (Nat.le_refl _) _).trans (hb.mono (by simp))).setCell (by simp) _).setCell (by simp) _ |>.setCell (by simp) _

set_option maxHeartbeats 1000000 in
theorem rect_ok (x y : Nat) (L : Int) (w : World) (hx : x < 4294967296) (hy : y < 4294967296) (h1 : -9223372036854775808 ≤ L) (h2 : L ≤ 9223372036854775807) :
    Calls Try.prog 13 #[.agg #[.int .u32 x, .int .u32 y, .int .i64 L]] w fun e w' =>
      e = .returned (.agg #[.int .u32 (cut (lv L) x : Nat), .int .u32 (cut (lv L) y : Nat), .int .u32 (cut (lv L) x + msk (lv L) : Nat), .int .u32 (cut (lv L) y + msk (lv L) : Nat)]) ∧ Below w.heap.size w w' := by
  have hlv := lv_le L
  go_enter Try.func13, Try.ntmps13
  go_wp2_with fail
  refine (fix_ok x y L _ hx hy h1 h2).mono ?_; rintro e w1 ⟨rfl, hb⟩
  have hz := hb.size
  simp at hz
  have k0 := (hb.cell (p := ⟨w.heap.size, 0, none⟩) (by simp <;> omega)).trans (by simp : _ = some (Value.int .u32 x))
  have k1 := (hb.cell (p := ⟨w.heap.size, 1, none⟩) (by simp <;> omega)).trans (by simp : _ = some (Value.int .u32 y))
  have k2 := (hb.cell (p := ⟨w.heap.size, 2, none⟩) (by simp <;> omega)).trans (by simp : _ = some (Value.int .i64 L))
  have k3 := (hb.cell (p := ⟨w.heap.size + 1, 0, none⟩) (by simp <;> omega)).trans (by simp : _ = some (Value.int .u32 0))
  have k4 := (hb.cell (p := ⟨w.heap.size + 1, 1, none⟩) (by simp <;> omega)).trans (by simp : _ = some (Value.int .u32 0))
  have k5 := (hb.cell (p := ⟨w.heap.size + 1, 2, none⟩) (by simp <;> omega)).trans (by simp : _ = some (Value.int .u32 0))
  have k6 := (hb.cell (p := ⟨w.heap.size + 1, 3, none⟩) (by simp <;> omega)).trans (by simp : _ = some (Value.int .u32 0))
  have f0 := fun o => (hb.frozen (p := ⟨w.heap.size, o, none⟩) (by simp <;> omega)).trans (by simp : _ = false)
  have f1 := fun o => (hb.frozen (p := ⟨w.heap.size + 1, o, none⟩) (by simp <;> omega)).trans (by simp : _ = false)
  go_wp2_with fail
  refine (side_ok (lv L) _ (by omega) (by omega)).mono ?_; rintro e w2 ⟨rfl, rfl⟩
  go_wp2_with fail
  have e0 : ∀ a, a < 4294967296 → bits .or .u32 ((cut (lv L) a : Nat) : Int) ((msk (lv L) : Nat) : Int) = ((cut (lv L) a + msk (lv L) : Nat) : Int) := fun a ha => by
    have hm : msk (lv L) < 2 ^ (32 - lv L) := by have h0 : 0 < 2 ^ (32 - lv L) := Nat.two_pow_pos _; unfold msk; omega
    have hm2 : msk (lv L) < 4294967296 := Nat.lt_of_lt_of_le hm (Nat.pow_le_pow_right (by decide) (show 32 - lv L ≤ 32 by omega))
    rw [u32_or_nat _ _ (cut_lt ha) hm2, cut, Nat.mul_comm, Nat.two_pow_add_eq_or_of_lt hm]
  rw [e0 _ hx, e0 _ hy]
  refine bodyPost_ret (v := .agg #[.int .u32 (cut (lv L) x : Nat), .int .u32 (cut (lv L) y : Nat), .int .u32 (cut (lv L) x + msk (lv L) : Nat), .int .u32 (cut (lv L) y + msk (lv L) : Nat)])
    (by simp [results, Try.results13, go_sem, *]) rfl ⟨rfl, ?_⟩
  refine Below.setCell (Below.setCell (Below.setCell (Below.setCell (Below.setCell (Below.setCell (Below.setCell ((((Below.refl _ _).alloc (Nat.le_refl _) _).alloc (by simp) _).trans (hb.mono (by simp; omega))) ?_ _) ?_ _) ?_ _) ?_ _) ?_ _) ?_ _) ?_ _ <;> simp

theorem eqlCell (a0 a1 b0 b1 : Int) (L L' : Int) (w : World) :
    (binOp .eql 32 (.agg #[.int .u32 a0, .int .u32 a1, .int .i64 L]) (.agg #[.int .u32 b0, .int .u32 b1, .int .i64 L'])).run Try.prog w = .ok (.bool (a0 == b0 && (a1 == b1 && L == L'))) w := by
  refine eql_of (eqs_of Try.underlying32 (by kernel_rfl) ?_)
  refine eqf_cons (by rfl) (by go_simp; rfl) (by go_simp; rfl) (by go_simp) ?_
  refine eqf_cons (by rfl) (by go_simp; rfl) (by go_simp; rfl) (by go_simp) ?_
  exact eqf_last (by rfl) (by go_simp; rfl) (by go_simp; rfl) (by go_simp)
theorem at_ok' (x y l : Nat) (w : World) (hx : x < 4294967296) (hy : y < 4294967296) (h1 : l ≤ 32) :
    Calls Try.prog 16 #[.int .u32 x, .int .u32 y, .int .i64 l] w fun e w' => e = .returned (.agg #[.int .u32 (cut l x : Nat), .int .u32 (cut l y : Nat), .int .i64 l]) ∧ Below w.heap.size w w' := by
  have h := at_ok x y l w hx hy (by omega) (by omega)
  rw [lv_id l h1] at h
  exact h
set_option maxHeartbeats 1000000 in
theorem has_ok (x y : Nat) (L : Int) (u v : Nat) (w : World) (hx : x < 4294967296) (hy : y < 4294967296) (hu : u < 4294967296) (hv : v < 4294967296) (h1 : -9223372036854775808 ≤ L) (h2 : L ≤ 9223372036854775807) :
    Calls Try.prog 19 #[.agg #[.int .u32 x, .int .u32 y, .int .i64 L], .int .u32 u, .int .u32 v] w fun e w' =>
      e = .returned (.bool (decide (cut (lv L) u = cut (lv L) x ∧ cut (lv L) v = cut (lv L) y))) ∧ Below w.heap.size w w' := by
  have hlv := lv_le L
  have eqc := eqlCell (cut (lv L) u : Nat) (cut (lv L) v : Nat) (cut (lv L) x : Nat) (cut (lv L) y : Nat) (lv L : Nat) (lv L : Nat)
  go_enter Try.func19, Try.ntmps19
  go_wp2_with fail
  refine (fix_ok x y L _ hx hy h1 h2).mono ?_; rintro e w1 ⟨rfl, hb⟩
  have hz := hb.size
  simp at hz
  have k0 := (hb.cell (p := ⟨w.heap.size, 0, none⟩) (by simp <;> omega)).trans (by simp : _ = some (Value.int .u32 x))
  have k1 := (hb.cell (p := ⟨w.heap.size, 1, none⟩) (by simp <;> omega)).trans (by simp : _ = some (Value.int .u32 y))
  have k2 := (hb.cell (p := ⟨w.heap.size, 2, none⟩) (by simp <;> omega)).trans (by simp : _ = some (Value.int .i64 L))
  have f0 := fun o => (hb.frozen (p := ⟨w.heap.size, o, none⟩) (by simp <;> omega)).trans (by simp : _ = false)
  have HB : ∀ a b c, Below w.heap.size w (((w1.setCell ⟨w.heap.size, 0, none⟩ a).setCell ⟨w.heap.size, 1, none⟩ b).setCell ⟨w.heap.size, 2, none⟩ c) := fun a b c =>
    Below.setCell (Below.setCell (Below.setCell (((Below.refl _ _).alloc (Nat.le_refl _) _).trans (hb.mono (by simp))) (Nat.le_refl _) _) (Nat.le_refl _) _) (Nat.le_refl _) _
  go_wp2_with fail
  go_region_held3 (fun W => W.cell? ⟨w.heap.size, 0, none⟩ = some (.int .u32 (cut (lv L) x : Nat)) ∧ W.cell? ⟨w.heap.size, 1, none⟩ = some (.int .u32 (cut (lv L) y : Nat)) ∧ W.cell? ⟨w.heap.size, 2, none⟩ = some (.int .i64 (lv L : Nat)) ∧ Below w.heap.size w W)
    (first
      | exact ⟨by go_simp, by go_simp, by go_simp, (HB _ _ _).drew⟩
      | (go_split_ands; exact ⟨cell_up (by assumption) hb2, cell_up (by assumption) hb2, cell_up (by assumption) hb2, below_up (by assumption) hb2⟩))
    ((go_at_call 16; refine (at_ok' u v (lv L) _ hu hv (lv_le L)).mono ?_; rintro e w2 ⟨rfl, hb2⟩))
  go_wp2
  go_ret
  refine ⟨ret_bool ?_, ?_⟩
  · rw [Bool.eq_iff_iff]; simp [Int.ofNat_inj]
  · rename_i hH; exact hH.2.2.2
end Go.Proofs.Ytdomngpkahgoiaa.Zw
