/- The walk over cell.Kid. -/
import Derived.Test.YtdomngpkahgoiaaTi3
namespace Go.Proofs.Ytdomngpkahgoiaa.Ti
open Go.RowKit Rg St Zw
set_option linter.unusedVariables false
set_option linter.unusedSimpArgs false
/-! ### Kid -/
theorem kid_or (n x b : Nat) (hx : x < 4294967296) (hn : n < 32) (hc : cut n x = x) (hb : b < 2) : bits .or .u32 ((x : Nat) : Int) ((2 ^ (31 - n) : Nat) : Int) = ((x + 2 ^ (31 - n) : Nat) : Int) := by
  have hp : 2 ^ (31 - n) < 4294967296 := Nat.lt_of_le_of_lt (Nat.pow_le_pow_right (by decide) (show 31 - n ≤ 31 by omega)) (by decide)
  rw [u32_or_nat _ _ hx hp]
  have h2 : 2 ^ (32 - n) = 2 ^ (31 - n) * 2 := by rw [show 32 - n = (31 - n) + 1 by omega, Nat.pow_succ]
  unfold cut at hc
  rw [h2] at hc
  have e : x = 2 ^ (31 - n) * 2 * (x / (2 ^ (31 - n) * 2)) := by rw [Nat.mul_comm]; exact hc.symm
  have h3 : 2 ^ (31 - n) < 2 ^ (31 - n + 1) := Nat.pow_lt_pow_right (by decide) (by omega)
  have := Nat.two_pow_add_eq_or_of_lt h3 (x / (2 ^ (31 - n) * 2))
  rw [Nat.pow_succ] at this
  rw [← e] at this
  rw [this]
set_option maxHeartbeats 4000000 in
set_option maxRecDepth 100000 in
theorem kid_ok (c : CeS) (q : Nat) (hq : q < 4) (w : World) (h : c.fine) : Calls Try.prog 15 #[cev c, .int .i64 (q : Nat)] w fun e w' => e = .returned (cev (c.kid q)) ∧ Below w.heap.size w w' := by
  have HF := Lib.hid (fun W => fixc_ok c W h)
  have hg := fix_good h
  have hx := good_x hg
  have hf := hg.1
  have hn32 := lv_le c.l
  have hfl : c.fix.l = ((lv c.l : Nat) : Int) := rfl
  rw [show lv c.fix.l = lv c.l from lv_lv _] at hx
  have hkid : c.kid q = if lv c.l = 32 then c.fix else ⟨c.fix.x + q % 2 * 2 ^ (31 - lv c.l), c.fix.y + q / 2 % 2 * 2 ^ (31 - lv c.l), ((lv c.l + 1 : Nat) : Int)⟩ := rfl
  rw [hkid]
  clear hkid hg
  generalize lv c.l = n at *
  generalize c.fix = d at *
  obtain ⟨dx, dy, dl⟩ := d
  simp only at hfl hx hf ⊢
  subst hfl
  by_cases hn0 : n = 32
  · subst hn0
    rw [if_pos rfl]
    go_enter Try.func15, Try.ntmps15
    go_wp2_with fail
    (with_reducible refine (HF.out _).mono ?_); rintro e w1 ⟨rfl, hb⟩
    have hz := hb.size
    simp at hz
    have k0 := (hb.cell (p := ⟨w.heap.size, 0, none⟩) (by simp <;> omega)).trans (by simp : _ = some (Value.int .u32 c.x))
    have k1 := (hb.cell (p := ⟨w.heap.size, 1, none⟩) (by simp <;> omega)).trans (by simp : _ = some (Value.int .u32 c.y))
    have k2 := (hb.cell (p := ⟨w.heap.size, 2, none⟩) (by simp <;> omega)).trans (by simp : _ = some (Value.int .i64 c.l))
    have k3 := (hb.cell (p := ⟨w.heap.size + 1, 0, none⟩) (by simp <;> omega)).trans (by simp : _ = some (Value.int .u32 0))
    have k4 := (hb.cell (p := ⟨w.heap.size + 1, 1, none⟩) (by simp <;> omega)).trans (by simp : _ = some (Value.int .u32 0))
    have k5 := (hb.cell (p := ⟨w.heap.size + 1, 2, none⟩) (by simp <;> omega)).trans (by simp : _ = some (Value.int .i64 0))
    have f0 := fun o => (hb.frozen (p := ⟨w.heap.size, o, none⟩) (by simp <;> omega)).trans (by simp : _ = false)
    have f1 := fun o => (hb.frozen (p := ⟨w.heap.size + 1, o, none⟩) (by simp <;> omega)).trans (by simp : _ = false)
    have HB := Lib.hid (((Below.refl w.heap.size w).alloc (Nat.le_refl _) (.cells #[.int .u32 (c.x : Nat), .int .u32 (c.y : Nat), .int .i64 c.l] 32)).alloc (by simp) (.cells #[.int .u32 0, .int .u32 0, .int .i64 0] 32) |>.trans (hb.mono (by simp; omega)))
    go_wp2_with fail
    refine bodyPost_ret (v := .agg #[.int .u32 (dx : Nat), .int .u32 (dy : Nat), .int .i64 32]) (by simp [results, Try.results15, go_sem, *]) rfl ⟨rfl, ?_⟩
    (repeat' (refine Below.setCell ?_ (by simp) _)) <;> exact HB.out
  · rw [if_neg hn0]
    have hn1 : n < 32 := by omega
    have dn : decide ((n : Int) = 32) = false := decide_eq_false (by omega)
    have dnb : ((n : Int) == 32) = false := by rw [beq_eq_false_iff_ne]; omega
    have hox := kid_or n dx 0 hf.1 hn1 hx.1 (by decide)
    have hoy := kid_or n dy 0 hf.2.1 hn1 hx.2.1 (by decide)
    have hM : msk (n + 1) + 1 = 2 ^ (31 - n) := by
      unfold msk
      have := Nat.two_pow_pos (32 - (n + 1))
      rw [show 32 - (n + 1) = 31 - n by omega] at *
      omega
    have hHb : 2 ^ (31 - n) ≤ 2147483648 := Nat.le_trans (Nat.pow_le_pow_right (by decide) (show 31 - n ≤ 31 by omega)) (by decide)
    have hsd := fun W => side_ok ((n : Int) + 1) W (by omega) (by omega)
    rw [show ((n : Int) + 1).toNat = n + 1 by omega] at hsd
    have HSd := Lib.hid hsd
    clear hsd hn0 hx hf
    generalize msk (n + 1) = M at *
    generalize 2 ^ (31 - n) = H at *
    have kw : IntKind.i64.wrap ((n : Int) + 1) = (n : Int) + 1 := by rw [IntWalk.i64_in _ (by omega)]
    have kM : IntKind.u32.wrap ((M : Int) + 1) = (H : Int) := by rw [IntKind.wrap_u32]; omega
    have kM2 : (M : Int) + 1 = (H : Int) := by omega
    obtain ⟨X, hX⟩ : ∃ X, dx + H = X := ⟨_, rfl⟩
    obtain ⟨Y, hY⟩ : ∃ Y, dy + H = Y := ⟨_, rfl⟩
    rw [hX] at hox
    rw [hY] at hoy
    have HM := Lib.hid hM
    clear hM
    have HOx := hox
    have HOy := hoy
    clear hox hoy
    rcases (by omega : q = 0 ∨ q = 1 ∨ q = 2 ∨ q = 3) with rfl | rfl | rfl | rfl
    · rw [show (⟨dx + 0 % 2 * H, dy + 0 / 2 % 2 * H, ((n + 1 : Nat) : Int)⟩ : CeS) = ⟨dx, dy, (n : Int) + 1⟩ by simp]
      clear hX hY
      have b1 : bits .and .i64 0 1 = 0 := by decide
      have b2 : bits .and .i64 0 2 = 0 := by decide
      rw [show ((0 : Nat) : Int) = 0 from rfl]
      go_enter Try.func15, Try.ntmps15
      go_wp2_with fail
      (with_reducible refine (HF.out _).mono ?_); rintro e w1 ⟨rfl, hb⟩
      have hz := hb.size
      simp at hz
      have k0 := (hb.cell (p := ⟨w.heap.size, 0, none⟩) (by simp <;> omega)).trans (by simp : _ = some (Value.int .u32 c.x))
      have k1 := (hb.cell (p := ⟨w.heap.size, 1, none⟩) (by simp <;> omega)).trans (by simp : _ = some (Value.int .u32 c.y))
      have k2 := (hb.cell (p := ⟨w.heap.size, 2, none⟩) (by simp <;> omega)).trans (by simp : _ = some (Value.int .i64 c.l))
      have k3 := (hb.cell (p := ⟨w.heap.size + 1, 0, none⟩) (by simp <;> omega)).trans (by simp : _ = some (Value.int .u32 0))
      have k4 := (hb.cell (p := ⟨w.heap.size + 1, 1, none⟩) (by simp <;> omega)).trans (by simp : _ = some (Value.int .u32 0))
      have k5 := (hb.cell (p := ⟨w.heap.size + 1, 2, none⟩) (by simp <;> omega)).trans (by simp : _ = some (Value.int .i64 0))
      have f0 := fun o => (hb.frozen (p := ⟨w.heap.size, o, none⟩) (by simp <;> omega)).trans (by simp : _ = false)
      have f1 := fun o => (hb.frozen (p := ⟨w.heap.size + 1, o, none⟩) (by simp <;> omega)).trans (by simp : _ = false)
      have HB := Lib.hid (((Below.refl w.heap.size w).alloc (Nat.le_refl _) (.cells #[.int .u32 (c.x : Nat), .int .u32 (c.y : Nat), .int .i64 c.l] 32)).alloc (by simp) (.cells #[.int .u32 0, .int .u32 0, .int .i64 0] 32) |>.trans (hb.mono (by simp; omega)))
      go_wp2_with fail
      (with_reducible refine (HSd.out _).mono ?_); rintro e w2 ⟨rfl, hw2⟩
      subst hw2
      have ka := fun (v0 v1 v2 : Value) (o : Obj) (j : Nat) => (below_alloc1 (((w1.setCell ⟨w.heap.size, 0, none⟩ v0).setCell ⟨w.heap.size, 1, none⟩ v1).setCell ⟨w.heap.size, 2, none⟩ v2) o).cell (p := ⟨w.heap.size + 1, j, none⟩) (by simp; omega)
      have fa := fun (v0 v1 v2 : Value) (o : Obj) (j : Nat) => (below_alloc1 (((w1.setCell ⟨w.heap.size, 0, none⟩ v0).setCell ⟨w.heap.size, 1, none⟩ v1).setCell ⟨w.heap.size, 2, none⟩ v2) o).frozen (p := ⟨w.heap.size + 1, j, none⟩) (by simp; omega)
      have ne1 : (w.heap.size + 1 = w1.heap.size) = False := eq_false (by omega)
      have ne2 : (w1.heap.size = w.heap.size + 1) = False := eq_false (by omega)
      have HZ : Hid (w.heap.size + 1 < w1.heap.size) := Lib.hid (by omega)
      clear hz
      go_wp2
      refine bodyPost_ret (v := .agg #[.int .u32 (dx : Nat), .int .u32 (dy : Nat), .int .i64 ((n : Int) + 1)]) (by simp [results, Try.results15, go_sem, *]) rfl ⟨rfl, ?_⟩
      (repeat' (first | refine Below.setCell ?_ (by have := HZ.out; simp <;> omega) _ | refine Below.alloc ?_ (by have := HZ.out; simp; omega) _)) <;> exact HB.out
    · rw [show (⟨dx + 1 % 2 * H, dy + 1 / 2 % 2 * H, ((n + 1 : Nat) : Int)⟩ : CeS) = ⟨X, dy, (n : Int) + 1⟩ by simp [← hX]]
      clear hX hY
      have b1 : bits .and .i64 1 1 = 1 := by decide
      have b2 : bits .and .i64 1 2 = 0 := by decide
      rw [show ((1 : Nat) : Int) = 1 from rfl]
      go_enter Try.func15, Try.ntmps15
      go_wp2_with fail
      (with_reducible refine (HF.out _).mono ?_); rintro e w1 ⟨rfl, hb⟩
      have hz := hb.size
      simp at hz
      have k0 := (hb.cell (p := ⟨w.heap.size, 0, none⟩) (by simp <;> omega)).trans (by simp : _ = some (Value.int .u32 c.x))
      have k1 := (hb.cell (p := ⟨w.heap.size, 1, none⟩) (by simp <;> omega)).trans (by simp : _ = some (Value.int .u32 c.y))
      have k2 := (hb.cell (p := ⟨w.heap.size, 2, none⟩) (by simp <;> omega)).trans (by simp : _ = some (Value.int .i64 c.l))
      have k3 := (hb.cell (p := ⟨w.heap.size + 1, 0, none⟩) (by simp <;> omega)).trans (by simp : _ = some (Value.int .u32 0))
      have k4 := (hb.cell (p := ⟨w.heap.size + 1, 1, none⟩) (by simp <;> omega)).trans (by simp : _ = some (Value.int .u32 0))
      have k5 := (hb.cell (p := ⟨w.heap.size + 1, 2, none⟩) (by simp <;> omega)).trans (by simp : _ = some (Value.int .i64 0))
      have f0 := fun o => (hb.frozen (p := ⟨w.heap.size, o, none⟩) (by simp <;> omega)).trans (by simp : _ = false)
      have f1 := fun o => (hb.frozen (p := ⟨w.heap.size + 1, o, none⟩) (by simp <;> omega)).trans (by simp : _ = false)
      have HB := Lib.hid (((Below.refl w.heap.size w).alloc (Nat.le_refl _) (.cells #[.int .u32 (c.x : Nat), .int .u32 (c.y : Nat), .int .i64 c.l] 32)).alloc (by simp) (.cells #[.int .u32 0, .int .u32 0, .int .i64 0] 32) |>.trans (hb.mono (by simp; omega)))
      go_wp2_with fail
      (with_reducible refine (HSd.out _).mono ?_); rintro e w2 ⟨rfl, hw2⟩
      subst hw2
      have ka := fun (v0 v1 v2 : Value) (o : Obj) (j : Nat) => (below_alloc1 (((w1.setCell ⟨w.heap.size, 0, none⟩ v0).setCell ⟨w.heap.size, 1, none⟩ v1).setCell ⟨w.heap.size, 2, none⟩ v2) o).cell (p := ⟨w.heap.size + 1, j, none⟩) (by simp; omega)
      have fa := fun (v0 v1 v2 : Value) (o : Obj) (j : Nat) => (below_alloc1 (((w1.setCell ⟨w.heap.size, 0, none⟩ v0).setCell ⟨w.heap.size, 1, none⟩ v1).setCell ⟨w.heap.size, 2, none⟩ v2) o).frozen (p := ⟨w.heap.size + 1, j, none⟩) (by simp; omega)
      have ne1 : (w.heap.size + 1 = w1.heap.size) = False := eq_false (by omega)
      have ne2 : (w1.heap.size = w.heap.size + 1) = False := eq_false (by omega)
      have HZ : Hid (w.heap.size + 1 < w1.heap.size) := Lib.hid (by omega)
      clear hz
      go_wp2
      refine bodyPost_ret (v := .agg #[.int .u32 (X : Nat), .int .u32 (dy : Nat), .int .i64 ((n : Int) + 1)]) (by simp [results, Try.results15, go_sem, *]) rfl ⟨rfl, ?_⟩
      (repeat' (first | refine Below.setCell ?_ (by have := HZ.out; simp <;> omega) _ | refine Below.alloc ?_ (by have := HZ.out; simp; omega) _)) <;> exact HB.out
    · rw [show (⟨dx + 2 % 2 * H, dy + 2 / 2 % 2 * H, ((n + 1 : Nat) : Int)⟩ : CeS) = ⟨dx, Y, (n : Int) + 1⟩ by simp [← hY]]
      clear hX hY
      have b1 : bits .and .i64 2 1 = 0 := by decide
      have b2 : bits .and .i64 2 2 = 2 := by decide
      rw [show ((2 : Nat) : Int) = 2 from rfl]
      go_enter Try.func15, Try.ntmps15
      go_wp2_with fail
      (with_reducible refine (HF.out _).mono ?_); rintro e w1 ⟨rfl, hb⟩
      have hz := hb.size
      simp at hz
      have k0 := (hb.cell (p := ⟨w.heap.size, 0, none⟩) (by simp <;> omega)).trans (by simp : _ = some (Value.int .u32 c.x))
      have k1 := (hb.cell (p := ⟨w.heap.size, 1, none⟩) (by simp <;> omega)).trans (by simp : _ = some (Value.int .u32 c.y))
      have k2 := (hb.cell (p := ⟨w.heap.size, 2, none⟩) (by simp <;> omega)).trans (by simp : _ = some (Value.int .i64 c.l))
      have k3 := (hb.cell (p := ⟨w.heap.size + 1, 0, none⟩) (by simp <;> omega)).trans (by simp : _ = some (Value.int .u32 0))
      have k4 := (hb.cell (p := ⟨w.heap.size + 1, 1, none⟩) (by simp <;> omega)).trans (by simp : _ = some (Value.int .u32 0))
      have k5 := (hb.cell (p := ⟨w.heap.size + 1, 2, none⟩) (by simp <;> omega)).trans (by simp : _ = some (Value.int .i64 0))
      have f0 := fun o => (hb.frozen (p := ⟨w.heap.size, o, none⟩) (by simp <;> omega)).trans (by simp : _ = false)
      have f1 := fun o => (hb.frozen (p := ⟨w.heap.size + 1, o, none⟩) (by simp <;> omega)).trans (by simp : _ = false)
      have HB := Lib.hid (((Below.refl w.heap.size w).alloc (Nat.le_refl _) (.cells #[.int .u32 (c.x : Nat), .int .u32 (c.y : Nat), .int .i64 c.l] 32)).alloc (by simp) (.cells #[.int .u32 0, .int .u32 0, .int .i64 0] 32) |>.trans (hb.mono (by simp; omega)))
      go_wp2_with fail
      (with_reducible refine (HSd.out _).mono ?_); rintro e w2 ⟨rfl, hw2⟩
      subst hw2
      have ka := fun (v0 v1 v2 : Value) (o : Obj) (j : Nat) => (below_alloc1 (((w1.setCell ⟨w.heap.size, 0, none⟩ v0).setCell ⟨w.heap.size, 1, none⟩ v1).setCell ⟨w.heap.size, 2, none⟩ v2) o).cell (p := ⟨w.heap.size + 1, j, none⟩) (by simp; omega)
      have fa := fun (v0 v1 v2 : Value) (o : Obj) (j : Nat) => (below_alloc1 (((w1.setCell ⟨w.heap.size, 0, none⟩ v0).setCell ⟨w.heap.size, 1, none⟩ v1).setCell ⟨w.heap.size, 2, none⟩ v2) o).frozen (p := ⟨w.heap.size + 1, j, none⟩) (by simp; omega)
      have ne1 : (w.heap.size + 1 = w1.heap.size) = False := eq_false (by omega)
      have ne2 : (w1.heap.size = w.heap.size + 1) = False := eq_false (by omega)
      have HZ : Hid (w.heap.size + 1 < w1.heap.size) := Lib.hid (by omega)
      clear hz
      go_wp2
      refine bodyPost_ret (v := .agg #[.int .u32 (dx : Nat), .int .u32 (Y : Nat), .int .i64 ((n : Int) + 1)]) (by simp [results, Try.results15, go_sem, *]) rfl ⟨rfl, ?_⟩
      (repeat' (first | refine Below.setCell ?_ (by have := HZ.out; simp <;> omega) _ | refine Below.alloc ?_ (by have := HZ.out; simp; omega) _)) <;> exact HB.out
    · rw [show (⟨dx + 3 % 2 * H, dy + 3 / 2 % 2 * H, ((n + 1 : Nat) : Int)⟩ : CeS) = ⟨X, Y, (n : Int) + 1⟩ by simp [← hX, ← hY]]
      clear hX hY
      have b1 : bits .and .i64 3 1 = 1 := by decide
      have b2 : bits .and .i64 3 2 = 2 := by decide
      rw [show ((3 : Nat) : Int) = 3 from rfl]
      go_enter Try.func15, Try.ntmps15
      go_wp2_with fail
      (with_reducible refine (HF.out _).mono ?_); rintro e w1 ⟨rfl, hb⟩
      have hz := hb.size
      simp at hz
      have k0 := (hb.cell (p := ⟨w.heap.size, 0, none⟩) (by simp <;> omega)).trans (by simp : _ = some (Value.int .u32 c.x))
      have k1 := (hb.cell (p := ⟨w.heap.size, 1, none⟩) (by simp <;> omega)).trans (by simp : _ = some (Value.int .u32 c.y))
      have k2 := (hb.cell (p := ⟨w.heap.size, 2, none⟩) (by simp <;> omega)).trans (by simp : _ = some (Value.int .i64 c.l))
      have k3 := (hb.cell (p := ⟨w.heap.size + 1, 0, none⟩) (by simp <;> omega)).trans (by simp : _ = some (Value.int .u32 0))
      have k4 := (hb.cell (p := ⟨w.heap.size + 1, 1, none⟩) (by simp <;> omega)).trans (by simp : _ = some (Value.int .u32 0))
      have k5 := (hb.cell (p := ⟨w.heap.size + 1, 2, none⟩) (by simp <;> omega)).trans (by simp : _ = some (Value.int .i64 0))
      have f0 := fun o => (hb.frozen (p := ⟨w.heap.size, o, none⟩) (by simp <;> omega)).trans (by simp : _ = false)
      have f1 := fun o => (hb.frozen (p := ⟨w.heap.size + 1, o, none⟩) (by simp <;> omega)).trans (by simp : _ = false)
      have HB := Lib.hid (((Below.refl w.heap.size w).alloc (Nat.le_refl _) (.cells #[.int .u32 (c.x : Nat), .int .u32 (c.y : Nat), .int .i64 c.l] 32)).alloc (by simp) (.cells #[.int .u32 0, .int .u32 0, .int .i64 0] 32) |>.trans (hb.mono (by simp; omega)))
      go_wp2_with fail
      (with_reducible refine (HSd.out _).mono ?_); rintro e w2 ⟨rfl, hw2⟩
      subst hw2
      have ka := fun (v0 v1 v2 : Value) (o : Obj) (j : Nat) => (below_alloc1 (((w1.setCell ⟨w.heap.size, 0, none⟩ v0).setCell ⟨w.heap.size, 1, none⟩ v1).setCell ⟨w.heap.size, 2, none⟩ v2) o).cell (p := ⟨w.heap.size + 1, j, none⟩) (by simp; omega)
      have fa := fun (v0 v1 v2 : Value) (o : Obj) (j : Nat) => (below_alloc1 (((w1.setCell ⟨w.heap.size, 0, none⟩ v0).setCell ⟨w.heap.size, 1, none⟩ v1).setCell ⟨w.heap.size, 2, none⟩ v2) o).frozen (p := ⟨w.heap.size + 1, j, none⟩) (by simp; omega)
      have ne1 : (w.heap.size + 1 = w1.heap.size) = False := eq_false (by omega)
      have ne2 : (w1.heap.size = w.heap.size + 1) = False := eq_false (by omega)
      have HZ : Hid (w.heap.size + 1 < w1.heap.size) := Lib.hid (by omega)
      clear hz
      go_wp2
      refine bodyPost_ret (v := .agg #[.int .u32 (X : Nat), .int .u32 (Y : Nat), .int .i64 ((n : Int) + 1)]) (by simp [results, Try.results15, go_sem, *]) rfl ⟨rfl, ?_⟩
      (repeat' (first | refine Below.setCell ?_ (by have := HZ.out; simp <;> omega) _ | refine Below.alloc ?_ (by have := HZ.out; simp; omega) _)) <;> exact HB.out
end Go.Proofs.Ytdomngpkahgoiaa.Ti
