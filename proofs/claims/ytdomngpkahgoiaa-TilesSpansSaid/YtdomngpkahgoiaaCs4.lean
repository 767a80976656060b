/- The walk over slices.rotateCmpFunc. -/
import Derived.Test.YtdomngpkahgoiaaCs3
namespace Go.Proofs.Ytdomngpkahgoiaa.StC
open Go.RowKit Rg Ti St
set_option linter.unusedVariables false
set_option linter.unusedSimpArgs false
set_option maxHeartbeats 4000000 in
set_option maxRecDepth 100000 in
theorem rotate_ok {base g N cap : Nat} (hN : N ≤ 4398046511104) (vf : Value) (W : World) (f : Row (CeS × Nat)) (h : RowF W base g N cap f) (a m b : Nat) (ha : a < m) (hm : m < b) (hb : b ≤ N) :
    Calls Try.prog 92 #[.slice (some ⟨g, 0, none⟩) N cap, .int .i64 a, .int .i64 m, .int .i64 b, vf] W fun e w' => e = .returned (.tuple #[]) ∧ RowF w' base g N cap (rot f a m b) ∧ Fr (fun k => k = g) W w' := by
  have HH := Lib.hid h
  clear h
  have k1 : IntKind.i64.wrap ((m : Int) - a) = ((m - a : Nat) : Int) := by rw [IntWalk.i64_in _ (by omega)]; omega
  have k2 : IntKind.i64.wrap ((b : Int) - m) = ((b - m : Nat) : Int) := by rw [IntWalk.i64_in _ (by omega)]; omega
  go_enter Try.func92, Try.ntmps92
  go_wp2_with fail
  go_loopw [10, 11] (fun vi vj W' => ∃ (i j : Nat) (f' : Row (CeS × Nat)), vi = .int .i64 i ∧ vj = .int .i64 j ∧ 0 < i ∧ 0 < j ∧ i ≤ m ∧ m + j ≤ N ∧ RowF W' base g N cap f' ∧ rot f' (m - i) m (m + j) = rot f a m b ∧ Fr (fun k => k = g) W W') (fun vi vj _ => (intOf vi).toNat + (intOf vj).toNat)
  case atStart => exact ⟨m - a, b - m, f, rfl, rfl, by omega, by omega, by omega, by omega, HH.out, by rw [show m - (m - a) = a by omega, show m + (b - m) = b by omega], Fr.refl _ _⟩
  case round =>
  obtain ⟨i, j, f', rfl, rfl, hi, hj, him, hjN, hR, hrot, hF⟩ := hrel
  have HR := Lib.hid hR
  have HF := Lib.hid hF
  have HRot := Lib.hid hrot
  clear hR hF hrot k1 k2
  have km : IntKind.i64.wrap ((m : Int) - i) = ((m - i : Nat) : Int) := by rw [IntWalk.i64_in _ (by omega)]; omega
  rcases Nat.lt_trichotomy j i with hlt | heq | hgt
  · have d1 : ((i : Int) != j) = true := by rw [bne_iff_ne]; omega
    have d1n : (i != j) = true := by rw [bne_iff_ne]; omega
    have d2 : decide ((i : Int) > j) = true := decide_eq_true (by omega)
    have d2n : decide (j < i) = true := decide_eq_true hlt
    have d2i : decide ((j : Int) < i) = true := decide_eq_true (by omega)
    have ks : IntKind.i64.wrap ((i : Int) - j) = ((i - j : Nat) : Int) := by rw [IntWalk.i64_in _ (by omega)]; omega
    have HE := Lib.hid ((rot_gt f' hlt him).trans HRot.out)
    have HS := Lib.hid (swapR_ok hN vf wr f' HR.out (m - i) m j (by omega) (by omega) hjN)
    go_wp2_with fail
    (with_reducible refine HS.out.mono ?_); rintro e w2 ⟨rfl, hR2, hF2⟩
    have HR2 := Lib.hid hR2
    have HF2 := Lib.hid (HF.out.trans hF2 (fun _ _ h => h))
    clear hR2 hF2 HS
    go_wp2
    exact ⟨⟨i - j, j, _, rfl, rfl, by omega, hj, by omega, hjN, HR2.out, HE.out, HF2.out⟩, by simp [intOf]; omega⟩
  · subst heq
    have d1 : ((j : Int) != j) = false := by simp
    have HS := Lib.hid (swapR_ok hN vf wr f' HR.out (m - j) m j (by omega) (by omega) hjN)
    go_wp2_with fail
    (with_reducible refine HS.out.mono ?_); rintro e w2 ⟨rfl, hR2, hF2⟩
    have HR2 := Lib.hid hR2
    have HF2 := Lib.hid (HF.out.trans hF2 (fun _ _ h => h))
    clear hR2 hF2 HS
    go_wp2
    go_end0
    refine ⟨rfl, ?_, HF2.out⟩
    have := HR2.out
    rw [rot_eq f' him, HRot.out] at this
    exact this
  · have d1 : ((i : Int) != j) = true := by rw [bne_iff_ne]; omega
    have d1n : (i != j) = true := by rw [bne_iff_ne]; omega
    have d2 : decide ((i : Int) > j) = false := decide_eq_false (by omega)
    have d2n : decide (j < i) = false := decide_eq_false (by omega)
    have d2i : decide ((j : Int) < i) = false := decide_eq_false (by omega)
    have ks : IntKind.i64.wrap ((j : Int) - i) = ((j - i : Nat) : Int) := by rw [IntWalk.i64_in _ (by omega)]; omega
    have kj : IntKind.i64.wrap ((m : Int) + j) = ((m + j : Nat) : Int) := by rw [IntWalk.i64_in _ (by omega)]; omega
    have kj2 : (m : Int) + j - i = ((m + j - i : Nat) : Int) := by omega
    have kj3 : IntKind.i64.wrap ((m : Int) + j - i) = ((m + j - i : Nat) : Int) := by rw [IntWalk.i64_in _ (by omega)]; omega
    have HE := Lib.hid ((rot_lt f' hgt him).trans HRot.out)
    have HS := Lib.hid (swapR_ok hN vf wr f' HR.out (m - i) (m + j - i) i (by omega) (by omega) (by omega))
    go_wp2_with fail
    (with_reducible refine HS.out.mono ?_); rintro e w2 ⟨rfl, hR2, hF2⟩
    have HR2 := Lib.hid hR2
    have HF2 := Lib.hid (HF.out.trans hF2 (fun _ _ h => h))
    clear hR2 hF2 HS
    go_wp2
    exact ⟨⟨i, j - i, _, rfl, rfl, hi, by omega, him, by omega, HR2.out, HE.out, HF2.out⟩, by simp [intOf]; omega⟩
end Go.Proofs.Ytdomngpkahgoiaa.StC
