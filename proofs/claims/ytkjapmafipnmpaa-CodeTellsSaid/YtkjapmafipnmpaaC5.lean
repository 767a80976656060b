/- The walk over croftlaw30.alive; steps, one behind the other, plainly. -/
import Derived.Test.YtkjapmafipnmpaaC3
import Derived.Deep.CutBlock
namespace Go.Proofs.Ytkjapmafipnmpaa.Cd
open Go.RowKit Lt
set_option linter.unusedVariables false
set_option linter.unusedSimpArgs false
def stepK (k : Int) : StepS := ⟨k, 0, 0, 0, 0, 0, ⟨#[]⟩, .slice none 0 0, []⟩
theorem stepK_fine (k : Nat) (hk : k ≤ 100) (w : World) : (stepK k).fine w := by
  have z : (-9223372036854775808 : Int) ≤ 0 ∧ (0 : Int) ≤ 9223372036854775807 := by decide
  have u : (0 : Nat) < 4294967296 := by decide
  have hd : (stepK k).d.size ≤ 140737488351232 := by show (0 : Nat) ≤ _; decide
  have hl : (stepK k).f.length ≤ 17592186043904 := by show (0 : Nat) ≤ _; decide
  refine ⟨?_, z, ⟨u, u, u, u⟩, hd, ird_nil _, ?_, hl⟩
  · show (-9223372036854775808 : Int) ≤ (k : Int) ∧ ((k : Int)) ≤ 9223372036854775807; omega
  · intro n h; exact absurd h (by simp [stepK])
theorem fe_append : ∀ (a b : List StepS), fe (a ++ b) = if fe a ≠ 0 then fe a else fe b
  | [], b => by simp [fe]
  | s :: a, b => by
    have ih := fe_append a b
    show (if s.chk ≠ 0 then s.chk else fe (a ++ b)) = if (if s.chk ≠ 0 then s.chk else fe a) ≠ 0 then (if s.chk ≠ 0 then s.chk else fe a) else fe b
    by_cases hs : s.chk ≠ 0
    · rw [if_pos hs, if_pos hs, if_pos hs]
    · rw [if_neg hs, if_neg hs, ih]
theorem putE_small {l : List StepS} (h : l.length ≤ 256) : putE l = if fe l ≠ 0 then fe l else if 65536 < (octs l).length then 10 else 0 := by unfold putE; rw [if_neg (by omega)]
theorem putE_zero {l : List StepS} (h : l.length ≤ 256) (h0 : putE l = 0) : fe l = 0 ∧ (octs l).length ≤ 65536 := by
  rw [putE_small h] at h0
  by_cases h1 : fe l ≠ 0
  · rw [if_pos h1] at h0; exact absurd h0 h1
  · rw [if_neg h1] at h0
    by_cases h2 : 65536 < (octs l).length
    · rw [if_pos h2] at h0; cases h0
    · exact ⟨by simpa using h1, by omega⟩
theorem joins_bad {a b : List StepS} (ha : a.length ≤ 30) (hb : b.length ≤ 30) (h : putE a ≠ 0 ∨ putE b ≠ 0) : putE (a ++ b) ≠ 0 := by
  intro h0
  obtain ⟨h1, h2⟩ := putE_zero (by rw [List.length_append]; omega) h0
  rw [fe_append] at h1
  rw [octs_append, List.length_append] at h2
  have hfa : fe a = 0 := by
    by_cases c : fe a ≠ 0
    · rw [if_pos c] at h1; exact absurd h1 c
    · simpa using c
  have hfb : fe b = 0 := by rw [if_neg (by simp [hfa])] at h1; exact h1
  rcases h with h | h
  · apply h; rw [putE_small (by omega), if_neg (by simp [hfa]), if_neg (by omega)]
  · apply h; rw [putE_small (by omega), if_neg (by simp [hfb]), if_neg (by omega)]
theorem joins_ok {a b : List StepS} (ha : a.length ≤ 30) (hb : b.length ≤ 30) (h1 : putE a = 0) (h2 : putE b = 0) : putE (a ++ b) = if 65536 < (octs a).length + (octs b).length then 10 else 0 := by
  obtain ⟨a1, a2⟩ := putE_zero (by omega) h1
  obtain ⟨b1, b2⟩ := putE_zero (by omega) h2
  have hf : fe (a ++ b) = 0 := by rw [fe_append, if_neg (by simp [a1])]; exact b1
  rw [putE_small (by rw [List.length_append]; omega), if_neg (by simp [hf]), octs_append, List.length_append]
theorem oct_one : putE [stepK 8] = 0 ∧ (octs [stepK 8]).length = 23 := by constructor <;> decide
theorem chk14 : (stepK 14).chk = 12 := by decide
set_option maxHeartbeats 4000000 in
set_option maxRecDepth 100000 in
theorem alive_ok (w : World) : Calls Try.prog 20 #[] w fun e w' => e = .returned (.bool true) ∧ Below w.heap.size w w' := by
  obtain ⟨h0, h23⟩ := oct_one
  have hrd := fun (W : World) => rd_new W #[.int .i64 8, .int .i64 0, .int .u32 0, .int .u32 0, .int .u32 0, .int .u32 0, .string ⟨#[]⟩, .slice none 0 0] 45 ([stepK 8].flatMap StepS.cells) rfl
  have hput := fun (W : World) => cput_ok (.slice (some ⟨W.heap.size, 0, none⟩) 1 1) [stepK 8] _ ⟨_, 1, rfl, Nat.le_refl _, hrd W⟩ (fun s hs => by rw [List.mem_singleton.1 hs]; exact stepK_fine 8 (by decide) _) (by decide)
  have hck := fun (W : World) => chk_ok (stepK 14) W (stepK_fine 14 (by decide) W)
  simp only [h0, if_pos] at hput
  simp only [chk14] at hck
  have hb0 := below_alloc1 w (.cells #[.int .i64 8, .int .i64 0, .int .u32 0, .int .u32 0, .int .u32 0, .int .u32 0, .string ⟨#[]⟩, .slice none 0 0] 45)
  generalize octs [stepK 8] = B at *
  have k1 : ((B.length : Int) == 23) = true := by rw [beq_iff_eq]; omega
  have HC := Lib.hid (And.intro (hput w) hck); clear hput hck hrd h0 h23
  have HB0 := Lib.hid hb0; clear hb0
  go_enter Try.func20, Try.ntmps20
  go_wp2_with fail
  refine HC.out.1.mono ?_; rintro e w1 ⟨x, rfl, hx, hb⟩
  obtain ⟨Ax, cx, rfl, _, _, _⟩ := hx
  have H1 := Lib.hid (below_up HB0.out hb); clear hb
  go_wp2_with fail
  refine (HC.out.2 _).mono ?_; rintro e w2 ⟨rfl, hb⟩
  have H2 := Lib.hid (below_up H1.out hb); clear hb
  go_wp2
  go_ret
  exact ⟨ret_bool (by first | rfl | simp), H2.out⟩
end Go.Proofs.Ytkjapmafipnmpaa.Cd
