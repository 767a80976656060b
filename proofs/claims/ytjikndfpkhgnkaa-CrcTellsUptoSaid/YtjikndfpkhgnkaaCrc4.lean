/- The walks over crc.Of and the laws of package crc. -/
import Derived.Test.YtjikndfpkhgnkaaCrc3
import Derived.Test.YtjikndfpkhgnkaaRef01
namespace Go.Proofs.Ytjikndfpkhgnkaa.Crc
open Go.RowKit
set_option linter.unusedVariables false
set_option linter.unusedSimpArgs false
def crc (l : List UInt8) : Nat := 4294967295 - l.foldl eat 4294967295
theorem fold_eq (l : List UInt8) (s : Nat) : l.foldl (eatT (steps 8)) s = l.foldl eat s := by
  induction l generalizing s with
  | nil => rfl
  | cons c l ih => simp only [List.foldl_cons, eat_table, ih]
theorem tab_get : ∀ i, i < 256 → (tabArr 256)[i]? = some (.int .u32 (steps 8 i : Nat)) := fun i h => by rw [tabArr_get 256 i h, if_pos h]
theorem tab_lt : ∀ i, i < 256 → steps 8 i < 4294967296 := fun i h => steps_lt 8 (by omega)
theorem sum_tab (v : Value) (l : List UInt8) (w : World) (hv : BRd w v l) (hl : l.length ≤ 9223372036854775800) :
    Calls Try.prog 39 #[.agg (tabArr 256), v] w fun e w' => e = .returned (.int .u32 (crc l : Nat)) ∧ Below w.heap.size w w' := by
  have := sum_ok (tabArr 256) (steps 8) v l w (tabArr_size _) tab_get tab_lt hv hl
  rw [fold_eq] at this
  exact this
theorem SlAt.below {w w' : World} {v : Value} {ls : List (List UInt8)} (h : SlAt w v ls) (hb : Below w.heap.size w w') : SlAt w' v ls := by
  obtain ⟨A, cap, e, hel⟩ := h
  exact ⟨A, cap, e, fun i hi => by
    obtain ⟨ad, x, e1, e2, e3⟩ := hel i hi
    exact ⟨ad, x, e1, cell_up e2 hb, e3.below hb⟩⟩
set_option maxHeartbeats 2000000 in
set_option maxRecDepth 100000 in
theorem of_ok (v : Value) (ls : List (List UInt8)) (w : World) (hv : SlAt w v ls) (hn : total ls ≤ 140737488351232) (hl : ls.length ≤ 1000000) :
    Calls Try.prog 36 #[v] w fun e w' => e = .returned (.int .u32 (crc ls.flatten : Nat)) ∧ Below w.heap.size w w' := by
  have HV := Lib.hid hv; clear hv
  go_enter Try.func36, Try.ntmps36
  go_wp2_with fail
  refine (table_ok w).mono ?_; rintro e w1 ⟨rfl, hb1⟩
  have H1 := Lib.hid (And.intro hb1 (HV.out.below hb1)); clear hb1
  generalize hT : tabArr 256 = T
  have HT := Lib.hid hT; clear hT
  go_wp2_with fail
  refine (concat_ok v ls w1 H1.out.2 hn hl).mono ?_; rintro e w2 ⟨x, rfl, hb2, hx⟩
  have H2 := Lib.hid (And.intro (below_up H1.out.1 hb2) hx); clear hb2 hx
  go_wp2_with fail
  rw [← HT.out]
  refine (sum_tab x ls.flatten w2 H2.out.2 (by unfold total at hn; omega)).mono ?_; rintro e w3 ⟨rfl, hb3⟩
  have H3 := Lib.hid (below_up H2.out.1 hb3); clear hb3
  go_wp2
  go_ret
  exact ⟨rfl, H3.out⟩
end Go.Proofs.Ytjikndfpkhgnkaa.Crc
