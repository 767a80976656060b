/- The walks over the laws of package crc: alive, CrcTables. -/
import Derived.Test.YtjikndfpkhgnkaaCrc4
import Derived.Lib.SlBytesConst
namespace Go.Proofs.Ytjikndfpkhgnkaa.Crc
open Go.RowKit
set_option linter.unusedVariables false
set_option linter.unusedSimpArgs false
theorem digits : crc [49, 50, 51, 52, 53, 54, 55, 56, 57] = 3421780262 := by decide +kernel
set_option maxHeartbeats 2000000 in
set_option maxRecDepth 100000 in
theorem alive2_ok (w : World) : Calls Try.prog 34 #[] w fun e w' => e = .returned (.bool true) ∧ Below w.heap.size w w' := by
  have hcv : (convert 49 49 (.slice (some ⟨w.heap.size, 0, none⟩) 9 9)).run Try.prog (w.alloc (.cells #[.int .u8 49, .int .u8 50, .int .u8 51, .int .u8 52, .int .u8 53, .int .u8 54, .int .u8 55, .int .u8 56, .int .u8 57] 5)) = .ok (.slice (some ⟨w.heap.size, 0, none⟩) 9 9) (w.alloc (.cells #[.int .u8 49, .int .u8 50, .int .u8 51, .int .u8 52, .int .u8 53, .int .u8 54, .int .u8 55, .int .u8 56, .int .u8 57] 5 (9, 10))) := Lib.run_convert_bytes_const (P := Try.prog) w 49 5 #[.int .u8 49, .int .u8 50, .int .u8 51, .int .u8 52, .int .u8 53, .int .u8 54, .int .u8 55, .int .u8 56, .int .u8 57] 9 9 Try.underlying49 Try.underlying5
  have hblk : (w.alloc (.cells #[.int .u8 49, .int .u8 50, .int .u8 51, .int .u8 52, .int .u8 53, .int .u8 54, .int .u8 55, .int .u8 56, .int .u8 57] 5 (9, 10))).heap[w.heap.size]? = _ := alloc_at _ rfl
  have hbel := below_alloc1 w (.cells #[.int .u8 49, .int .u8 50, .int .u8 51, .int .u8 52, .int .u8 53, .int .u8 54, .int .u8 55, .int .u8 56, .int .u8 57] 5 (9, 10))
  have hsz : (w.alloc (.cells #[.int .u8 49, .int .u8 50, .int .u8 51, .int .u8 52, .int .u8 53, .int .u8 54, .int .u8 55, .int .u8 56, .int .u8 57] 5 (9, 10))).heap.size = w.heap.size + 1 := by simp
  generalize (w.alloc (.cells #[.int .u8 49, .int .u8 50, .int .u8 51, .int .u8 52, .int .u8 53, .int .u8 54, .int .u8 55, .int .u8 56, .int .u8 57] 5 (9, 10))) = w1 at *
  have hrd : BRd w1 (.slice (some ⟨w.heap.size, 0, none⟩) 9 9) [49, 50, 51, 52, 53, 54, 55, 56, 57] :=
    ⟨_, 9, rfl, by decide, by have := rd_block hblk 0 9 (by decide); exact this, fun ad h _ => by cases h; rfl⟩
  have HH := Lib.hid (And.intro hbel hrd); clear hblk hbel hrd
  go_enter Try.func34, Try.ntmps34
  go_wp2_with fail
  have hb2 := below_alloc1 w1 (.cells #[.slice (some ⟨w.heap.size, 0, none⟩) 9 9] 49)
  have hsl : SlAt (w1.alloc (.cells #[.slice (some ⟨w.heap.size, 0, none⟩) 9 9] 49)) (.slice (some ⟨w.heap.size + 1, 0, none⟩) 1 1) [[49, 50, 51, 52, 53, 54, 55, 56, 57]] := by
    refine ⟨some ⟨w.heap.size + 1, 0, none⟩, 1, rfl, fun i hi => ?_⟩
    have h0 : i = 0 := by simp at hi; omega
    subst h0
    exact ⟨_, _, rfl, (cell_block (alloc_at (w := w1) _ hsz.symm) 0), HH.out.2.below hb2⟩
  refine (of_ok _ _ _ hsl (by decide) (by decide)).mono ?_; rintro e w5 ⟨rfl, hb5⟩
  have HB := Lib.hid (below_up (below_up HH.out.1 hb2) hb5); clear hb5 hb2 hsl
  rw [show ([[49, 50, 51, 52, 53, 54, 55, 56, 57]] : List (List UInt8)).flatten = [49, 50, 51, 52, 53, 54, 55, 56, 57] from rfl, digits]
  go_wp2
  go_ret
  exact ⟨rfl, HB.out⟩
end Go.Proofs.Ytjikndfpkhgnkaa.Crc
