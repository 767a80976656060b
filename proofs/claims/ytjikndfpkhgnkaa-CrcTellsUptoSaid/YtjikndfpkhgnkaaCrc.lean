/- The walks over croftref01.Sum and package crc. -/
import Derived.Test.YtjikndfpkhgnkaaMem
import Derived.Test.YtjikndfpkhgnkaaCrcm
import Derived.Laws.BitsAllLaws
import Derived.Deep.WholeRow
namespace Go.Proofs.Ytjikndfpkhgnkaa.Crc
open Go.RowKit
set_option linter.unusedVariables false
set_option linter.unusedSimpArgs false
set_option maxHeartbeats 2000000 in
theorem refsum_ok (v : Value) (l : List UInt8) (w : World) (hv : BRd w v l) (hl : l.length ≤ 9223372036854775800) :
    Calls Try.prog 37 #[v] w fun e w' => e = .returned (.int .u32 (4294967295 - l.foldl eat 4294967295 : Nat)) ∧ w' = w := by
  obtain ⟨A, c, rfl, hlc, hr, hA⟩ := hv
  have HR := Lib.hid (And.intro hr hA); clear hr hA
  go_enter Try.func37, Try.ntmps37
  go_wp2_with fail
  go_loop [3, 4] (fun vs vi => ∃ k : Nat, k ≤ l.length ∧ vi = .int .i64 k ∧ vs = .int .u32 ((l.take k).foldl eat 4294967295 : Nat)) (fun _ vi => l.length - (intOf vi).toNat)
  case atStart => exact ⟨0, by omega, rfl, by simp⟩
  obtain ⟨k, hk, rfl, rfl⟩ := hrel
  have hlt32 := fold_lt (l.take k) (s := 4294967295) (by decide)
  by_cases hlt : k < l.length
  · have d : decide ((k : Int) < l.length) = true := decide_eq_true (by omega)
    obtain ⟨ad, rfl, hcell⟩ := HR.out.1.at_ (i := k) (by rw [bv_length]; exact hlt)
    have hcv : (bv l)[k]'(by rw [bv_length]; exact hlt) = .int .u8 l[k].toNat := by simp [bv]
    rw [hcv] at hcell
    have hc8 := l[k].toNat_lt
    have hnext : (l.take (k + 1)).foldl eat 4294967295 = steps 8 ((l.take k).foldl eat 4294967295 ^^^ l[k].toNat) := by
      rw [List.take_succ_eq_append_getElem hlt, List.foldl_append]; rfl
    generalize (l.take k).foldl eat 4294967295 = s at *
    generalize l[k].toNat = C at *
    have hx := Nat.xor_lt_two_pow (n := 32) (x := s) (y := C) (by omega) (by omega)
    have hxv : bits .xor .u32 (s : Int) (C : Int) = ((s ^^^ C : Nat) : Int) := u32_xor_nat s C (by omega) (by omega)
    generalize s ^^^ C = X at *
    have HN := Lib.hid hnext; clear hnext
    go_wp2_with fail
    go_loop [3, 5] (fun vs vj => ∃ j : Nat, j ≤ 8 ∧ vj = .int .i64 j ∧ vs = .int .u32 (steps j X : Nat)) (fun _ vj => 8 - (intOf vj).toNat)
    case atStart => exact ⟨0, by omega, rfl, rfl⟩
    obtain ⟨j, hj, rfl, rfl⟩ := hrel
    have hS := steps_lt j (x := X) (by omega)
    by_cases hj8 : j < 8
    · have hn := steps_succ j X
      generalize steps j X = S at *
      have HS := Lib.hid hn; clear hn
      by_cases hodd : S % 2 = 1
      · have hp : bits .xor .u32 ((S : Int) / 2) 3988292384 = ((S / 2 ^^^ 3988292384 : Nat) : Int) := u32_xor_nat (S / 2) 3988292384 (by omega) (by decide)
        go_wp2
        refine ⟨⟨j + 1, by omega, by simp, ?_⟩, by simp [intOf]; omega⟩
        rw [HS.out]; unfold step; rw [if_pos hodd]; rfl
      · go_wp2
        refine ⟨⟨j + 1, by omega, by simp, ?_⟩, by simp [intOf]; omega⟩
        rw [HS.out]; unfold step; rw [if_neg hodd]; simp
    · have hj2 : j = 8 := by omega
      subst hj2
      go_wp2
      exact ⟨⟨k + 1, by omega, by simp, by rw [HN.out]⟩, by simp [intOf]; omega⟩
  · have hkl : k = l.length := by omega
    subst hkl
    rw [List.take_length] at *
    go_wp2
    go_ret
    have hle : l.foldl eat 4294967295 ≤ 4294967295 := by omega
    refine ⟨ret_int ?_, rfl⟩
    omega
theorem zero256 : (Try.prog.info? 61).map (fun i => (i.zero, i.size)) = some (some (.agg (Array.replicate 256 (.int .u32 0))), 256) := by kernel_rfl
def tabArr (k : Nat) : Array Value := (Array.range 256).map fun i => .int .u32 (if i < k then steps 8 i else 0 : Nat)
theorem tabArr_size (k : Nat) : (tabArr k).size = 256 := by simp [tabArr]
theorem tabArr_set (k : Nat) (h : k < 256) : (tabArr k).setIfInBounds k (.int .u32 (steps 8 k : Nat)) = tabArr (k + 1) := by
  apply Array.ext
  · simp [tabArr]
  · intro i h1 h2
    have hi : i < (tabArr k).size := by simpa using h1
    rw [Array.getElem_setIfInBounds hi]
    simp only [tabArr, Array.getElem_map, Array.getElem_range]
    by_cases e : k = i
    · subst e; simp
    · rw [if_neg e]
      by_cases e2 : i < k
      · rw [if_pos e2, if_pos (by omega)]
      · rw [if_neg e2, if_neg (by omega)]
theorem tabArr_get (k i : Nat) (h : i < 256) : (tabArr k)[i]? = some (.int .u32 (if i < k then steps 8 i else 0 : Nat)) := by
  rw [Array.getElem?_eq_getElem (by rw [tabArr_size]; exact h)]
  simp [tabArr]
theorem u32_and1 (s : Nat) (h : s < 4294967296) : bits .and .u32 (s : Int) 1 = ((s % 2 : Nat) : Int) := by
  have := u32_and_nat s 1 h (by decide)
  rw [Nat.and_one_is_mod] at this
  exact this
theorem setRow_at {w : World} {g : Nat} {cs c : Array Value} {t : TypeId} {f : Nat × Nat} (h : w.heap[g]? = some (.cells cs t f)) : (w.setRow g c).heap[g]? = some (.cells c t f) := by
  simp only [World.setRow, Array.getElem?_modify, h]
  simp
theorem below_setRow {B : Nat} {a w : World} (h : Below B a w) {g : Nat} (hg : B ≤ g) (c : Array Value) : Below B a (w.setRow g c) :=
  h.trans ⟨rfl, rfl, rfl, by simp [World.setRow], fun k hk => by simp only [World.setRow, Array.getElem?_modify]; rw [if_neg (by omega)]⟩
set_option maxHeartbeats 2000000 in
set_option maxRecDepth 100000 in
theorem table_ok (w : World) : Calls Try.prog 35 #[] w fun e w' => e = .returned (.agg (tabArr 256)) ∧ Below w.heap.size w w' := by
  obtain ⟨hz, hs⟩ := zero_of_info zero256
  have hZ : Array.replicate 256 (Value.int .u32 0) = tabArr 0 := by
    apply Array.ext <;> simp [tabArr]
  rw [hZ] at hz
  have hsz := tabArr_size 0
  have HZ := Lib.hid hsz; clear hsz hZ
  have HS := Lib.hid hs; clear hs
  generalize hT0 : tabArr 0 = T0 at *
  have HT := Lib.hid hT0; clear hT0
  go_enter Try.func35, Try.ntmps35
  go_wp2_with fail
  go_loopw [5] (fun vi W => ∃ k : Nat, k ≤ 256 ∧ vi = .int .i64 k ∧ W.heap[w.heap.size + 1]? = some (.cells (tabArr k) 61 (0, 0)) ∧ W.heap[w.heap.size]? = some (.cells T0 61 (0, 0)) ∧ Below w.heap.size w W) (fun vi _ => 256 - (intOf vi).toNat)
  case atStart =>
    refine ⟨0, by omega, rfl, ?_, ?_, below_alloc (below_alloc1 _ _) _⟩
    · rw [HT.out]; exact alloc_at _ (by simp)
    · exact alloc_old (alloc_at _ rfl) _
  obtain ⟨k, hk, rfl, hblk, hblk0, hbel⟩ := hrel
  by_cases hlt : k < 256
  · have d : decide ((k : Int) < 256) = true := decide_eq_true (by omega)
    have hc := cell_block hblk k
    rw [tabArr_get k k hlt, if_neg (Nat.lt_irrefl k)] at hc
    have hf := free_block hblk k
    have H := Lib.hid (And.intro hblk (And.intro hblk0 hbel)); clear hblk hblk0 hbel
    go_wp2_with fail
    go_loop [3, 10] (fun vs vj => ∃ j : Nat, j ≤ 8 ∧ vj = .int .i64 j ∧ vs = .int .u32 (steps j k : Nat)) (fun _ vj => 8 - (intOf vj).toNat)
    case atStart => exact ⟨0, by omega, rfl, by simp [steps]; try omega⟩
    obtain ⟨j, hj, rfl, rfl⟩ := hrel
    have hS := steps_lt j (x := k) (by omega)
    have hand := u32_and1 _ hS
    by_cases hj8 : j < 8
    · have hn := steps_succ j k
      generalize steps j k = S at *
      have HN := Lib.hid hn; clear hn
      by_cases hodd : S % 2 = 1
      · have hp : bits .xor .u32 ((S : Int) / 2) 3988292384 = ((S / 2 ^^^ 3988292384 : Nat) : Int) := u32_xor_nat (S / 2) 3988292384 (by omega) (by decide)
        go_wp2
        refine ⟨⟨j + 1, by omega, by simp, ?_⟩, by simp [intOf]; omega⟩
        rw [HN.out]; unfold step; rw [if_pos hodd]; rfl
      · go_wp2
        refine ⟨⟨j + 1, by omega, by simp, ?_⟩, by simp [intOf]; omega⟩
        rw [HN.out]; unfold step; rw [if_neg hodd]; simp
    · have hj2 : j = 8 := by omega
      subst hj2
      clear hand
      go_wp2
      refine ⟨⟨k + 1, by omega, by simp, ?_, blk_far H.out.2.1 (by simp) _, H.out.2.2.setCell (by simp) _⟩, by simp [intOf]; omega⟩
      rw [blk_set H.out.1, tabArr_set k hlt]
  · have hkl : k = 256 := by omega
    subst hkl
    have H := Lib.hid (And.intro hblk (And.intro hblk0 hbel)); clear hblk hblk0 hbel
    have hi : (Try.prog.info? 61).map (·.size) = some (tabArr 256).size := by rw [tabArr_size]; exact HS.out
    have hld := run_loadVar_row wr (w.heap.size + 1) 61 61 (tabArr 256) (0, 0) _ H.out.1 Try.underlying61 rfl hi
    have hst := run_storeVar_row wr w.heap.size 61 61 T0 (tabArr 256) H.out.2.1 hi (by rw [HZ.out, tabArr_size]) (by rw [Array.all_eq_true]; intro i hi; simp [tabArr, Value.oneCell'])
    have hld9 := run_loadVar_row (wr.setRow w.heap.size (tabArr 256)) w.heap.size 61 61 (tabArr 256) (0, 0) _ (setRow_at H.out.2.1) Try.underlying61 rfl hi
    have hb9 := below_setRow H.out.2.2 (Nat.le_refl _) (tabArr 256)
    have hTs : (tabArr 256).size = 256 := tabArr_size _
    generalize wr.setRow w.heap.size (tabArr 256) = w9 at *
    generalize hT256 : tabArr 256 = T at *
    have H256 := Lib.hid hT256; clear hT256
    have hlat : (Instr.loadAt 61 (.pointer (some ⟨w.heap.size + 1, 0, none⟩))).run Try.prog wr = .ok (.agg T) wr := by
      simp only [Instr.loadAt, Instr.sureAddr, Sem.run_bind, Sem.run_pure, Result.andThen]
      exact hld
    have hsc : (storeCells ⟨w.heap.size, 0, none⟩ T.toList).run Try.prog wr = .ok () w9 := by
      cases hq : Try.prog.info? 61 with
      | none => rw [hq] at hi; simp at hi
      | some iq =>
        have hs : T.size = iq.size := by rw [hq] at hi; simp at hi; omega
        simpa [storeVar, sizeOf, typeInfo, hq, Value.cells, hs] using hst
    have HB := Lib.hid hb9; clear hb9
    go_wp2
    unfold Oper.wp
    simp only [execOp, Sem.run_bind]
    erw [hlat]
    simp only [Result.andThen, Sem.run_pure]
    rw [Oper.upon_value]
    go_step
    go_wp2
    refine bodyPost_ret (v := .agg T) ?_ rfl ⟨by rw [H256.out], HB.out⟩
    simp only [results, Try.results35]
    simp [asAddr, Result.andThen, hld9]
end Go.Proofs.Ytjikndfpkhgnkaa.Crc
