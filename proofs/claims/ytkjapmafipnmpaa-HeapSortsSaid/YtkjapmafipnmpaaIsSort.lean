/- The walk over heap.Sorted. -/
import Derived.Test.YtkjapmafipnmpaaIs9
import Derived.Test.YtkjapmafipnmpaaIsCl
import Derived.Test.YtkjapmafipnmpaaH2
namespace Go.Proofs.Ytkjapmafipnmpaa.StI
open Go.RowKit Rg Hp St
set_option linter.unusedVariables false
set_option linter.unusedSimpArgs false
/-- Sorted, alike ones as they stand. -/
def byLt (L : List ItS) : List ItS := L.mergeSort (fun a b => !ltc cmpS b a)
theorem ltc_lt (x y : ItS) : ltc cmpS x y = decide (ItS.Lt x y) := by
  unfold ltc
  rw [Bool.eq_iff_iff, decide_eq_true_iff, decide_eq_true_iff]
  exact cmpS_lt x y
theorem swo_lt : SWO (ltc cmpS) where
  asymm := fun a b h => by rw [ltc_lt] at *; rw [decide_eq_true_iff] at h; exact decide_eq_false (fun h2 => ItS.Lt.irr _ (ItS.Lt.trans h h2))
  trans := fun a b c h1 h2 => by rw [ltc_lt] at *; rw [decide_eq_true_iff] at *; exact ItS.Lt.trans h1 h2
  ntrans := fun a b c h1 h2 => by rw [ltc_lt] at *; rw [decide_eq_false_iff_not] at *; exact ItS.Lt.le_trans h1 h2
theorem cmlt_ok : CmpOk 89 #[] (fun _ => True) cmpS := fun x y W _ => compare_ok x y W
theorem runs_lt : RunsF 89 := fun args W => by go_simp
theorem ins_nil (vf : Value) (W : World) : Calls Try.prog 106 #[.slice none 0 0, .int .i64 0, .int .i64 0, vf] W fun e w' => e = .returned (.tuple #[]) ∧ W = w' := by
  go_enter Try.func106, Try.ntmps106
  go_wp2_with fail
  go_loopw [8] (fun vi W' => vi = .int .i64 1 ∧ W' = W) (fun _ _ => 0)
  case atStart => exact ⟨rfl, rfl⟩
  case round =>
  obtain ⟨rfl, rfl⟩ := hrel
  go_wp2
  go_end0
  exact ⟨rfl, rfl⟩
theorem stable_nil (vf : Value) (W : World) : Calls Try.prog 101 #[.slice none 0 0, .int .i64 0, vf] W fun e w' => e = .returned (.tuple #[]) ∧ W = w' := by
  have HI := fun W => ins_nil vf W
  go_enter Try.func101, Try.ntmps101
  go_wp2_with fail
  go_loopw [7, 8] (fun va vb W' => va = .int .i64 0 ∧ vb = .int .i64 20 ∧ W' = W) (fun _ _ _ => 0)
  case atStart => exact ⟨rfl, rfl, rfl⟩
  case round =>
  obtain ⟨rfl, rfl, hw⟩ := hrel
  replace hw := hw.symm; subst hw
  go_wp2_with fail
  (with_reducible refine (HI _).mono ?_); rintro e w1 ⟨rfl, hw⟩
  subst hw
  go_wp2_with fail
  go_loopw [6] (fun vs W' => vs = .int .i64 20 ∧ W' = W) (fun _ _ => 0)
  case atStart => exact ⟨rfl, rfl⟩
  case round =>
  obtain ⟨rfl, rfl⟩ := hrel
  go_wp2
  go_end0
  exact ⟨rfl, rfl⟩
theorem sort_nil (vf : Value) (W : World) : Calls Try.prog 88 #[.slice none 0 0, vf] W fun e w' => e = .returned (.tuple #[]) ∧ W = w' := by
  have HI := fun W => stable_nil vf W
  go_enter Try.func88, Try.ntmps88
  go_wp2_with fail
  (with_reducible refine (HI _).mono ?_); rintro e w1 ⟨rfl, rfl⟩
  go_wp2
  go_end0
  exact ⟨rfl, rfl⟩
set_option maxHeartbeats 4000000 in
set_option maxRecDepth 100000 in
theorem hsorted_ok (v : Value) (L : List ItS) (w : World) (h : IRow w v L) (hl : L.length ≤ 4398046511104) :
    Calls Try.prog 56 #[v] w fun e w' => ∃ v', e = .returned v' ∧ w'.ownsRow w.heap.size 33 4 v' L.length ((byLt L).flatMap ItS.cells) ∧ Below w.heap.size w w' := by
  have HCl := Lib.hid (iclone_ok v L w h hl)
  clear h
  go_enter Try.func56, Try.ntmps56
  go_wp2_with fail
  (with_reducible refine HCl.out.mono ?_); rintro e w1 ⟨v', rfl, hO, hb⟩
  have HB := Lib.hid hb
  have HO := Lib.hid hO
  clear hb
  rcases hO.2 with ⟨rfl, hl0⟩ | ⟨g, cap, cur, rfl, hbg, _⟩
  · obtain rfl : L = [] := List.eq_nil_of_length_eq_zero hl0
    clear hO
    have HN := fun vf W => sort_nil vf W
    go_wp2_with fail
    (with_reducible refine (HN _ _).mono ?_); rintro e w2 ⟨rfl, rfl⟩
    go_wp2
    go_ret
    exact ⟨_, rfl, by rw [show byLt [] = [] by simp [byLt]]; exact HO.out, HB.out⟩
  · have HS := Lib.hid (sort_ok cmlt_ok swo_lt (fun _ _ _ _ => trivial) runs_lt w1 trivial L hl hO)
    have HG := Lib.hid hbg
    clear hO hbg
    go_wp2_with fail
    (with_reducible refine HS.out.mono ?_); rintro e w2 ⟨rfl, hO2, hF2⟩
    have HO2 := Lib.hid hO2
    have HF2 := Lib.hid hF2
    clear hO2 hF2
    go_wp2
    go_ret
    exact ⟨_, rfl, HO2.out, ((Fr.of_below (S := fun k => w.heap.size ≤ k) HB.out).trans HF2.out (fun k _ h => by subst h; exact HG.out)).toBelow (fun _ h => h) (Nat.le_refl _)⟩
end Go.Proofs.Ytkjapmafipnmpaa.StI
