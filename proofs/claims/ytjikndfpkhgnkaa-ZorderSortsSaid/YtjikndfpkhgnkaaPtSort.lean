/- The walk over point.Sort. -/
import Derived.Test.YtjikndfpkhgnkaaSt9
import Derived.Test.YtjikndfpkhgnkaaCmpI
import Derived.Test.YtjikndfpkhgnkaaPtCl
namespace Go.Proofs.Ytjikndfpkhgnkaa.St
open Go.RowKit Rg Pt
set_option linter.unusedVariables false
set_option linter.unusedSimpArgs false
def cmId (x y : PtS) : Int := cmpI x.id y.id
/-- Sorted by Id, alike ones as they stand. -/
def byId (L : List PtS) : List PtS := L.mergeSort (fun a b => !ltc cmId b a)
theorem ltc_id (x y : PtS) : ltc cmId x y = decide (x.id < y.id) := by unfold ltc cmId; exact cmpI_neg _ _
theorem swo_id : SWO (ltc cmId) where
  asymm := fun a b h => by rw [ltc_id] at *; simp at *; omega
  trans := fun a b c h1 h2 => by rw [ltc_id] at *; simp at *; omega
  ntrans := fun a b c h1 h2 => by rw [ltc_id] at *; simp at *; omega
theorem ins_nil (vf : Value) (W : World) : Calls Try.prog 76 #[.slice none 0 0, .int .i64 0, .int .i64 0, vf] W fun e w' => e = .returned (.tuple #[]) ∧ W = w' := by
  go_enter Try.func76, Try.ntmps76
  go_wp2_with fail
  go_loopw [8] (fun vi W' => vi = .int .i64 1 ∧ W' = W) (fun _ _ => 0)
  case atStart => exact ⟨rfl, rfl⟩
  case round =>
  obtain ⟨rfl, rfl⟩ := hrel
  go_wp2
  go_end0
  exact ⟨rfl, rfl⟩
theorem stable_nil (vf : Value) (W : World) : Calls Try.prog 71 #[.slice none 0 0, .int .i64 0, vf] W fun e w' => e = .returned (.tuple #[]) ∧ W = w' := by
  have HI := fun W => ins_nil vf W
  go_enter Try.func71, Try.ntmps71
  go_wp2_with fail
  go_loopw [7, 8] (fun va vb W' => va = .int .i64 0 ∧ vb = .int .i64 20 ∧ W' = W) (fun _ _ _ => 0)
  case atStart => exact ⟨rfl, rfl, rfl⟩
  case round =>
  obtain ⟨rfl, rfl, hw⟩ := hrel
  replace hw := hw.symm; subst hw
  go_wp2_with fail
  (with_reducible refine (HI _).mono ?_); rintro e w1 ⟨rfl, hw⟩
  subst hw
  go_wp2_with fail
  go_loopw [6] (fun vs W' => vs = .int .i64 20 ∧ W' = W) (fun _ _ => 0)
  case atStart => exact ⟨rfl, rfl⟩
  case round =>
  obtain ⟨rfl, rfl⟩ := hrel
  go_wp2
  go_end0
  exact ⟨rfl, rfl⟩
theorem sort_nil (vf : Value) (W : World) : Calls Try.prog 62 #[.slice none 0 0, vf] W fun e w' => e = .returned (.tuple #[]) ∧ W = w' := by
  have HI := fun W => stable_nil vf W
  go_enter Try.func62, Try.ntmps62
  go_wp2_with fail
  (with_reducible refine (HI _).mono ?_); rintro e w1 ⟨rfl, rfl⟩
  go_wp2
  go_end0
  exact ⟨rfl, rfl⟩
end Go.Proofs.Ytjikndfpkhgnkaa.St
