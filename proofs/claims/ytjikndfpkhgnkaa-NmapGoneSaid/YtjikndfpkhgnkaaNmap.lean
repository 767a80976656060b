/- The walks over package nmap: Set, Ids, Apart; croftplain.Ints. -/
import Derived.Test.YtjikndfpkhgnkaaArr
namespace Go.Proofs.Ytjikndfpkhgnkaa.Nm
open Go.RowKit
set_option linter.unusedVariables false
set_option linter.unusedSimpArgs false

theorem zeroI : (Try.prog.info? 22).map (fun i => (i.zero, i.size)) = some (some (.agg (Array.replicate 256 (.int .i64 0))), 256) := by kernel_rfl
theorem zero_ls : Array.replicate 256 (Value.int .i64 0) = (lsI 256 fun _ => 0).toArray := by
  apply Array.ext <;> simp [lsI]
theorem inf (f : Nat → Int) : (Try.prog.info? 22).map (·.size) = some (lsI 256 f).toArray.size := by
  rw [lsI_size]; exact (zero_of_info zeroI).2
theorem zeroW (w : World) : (zeroValue 22).run Try.prog w = .ok (.agg (lsI 256 fun _ => 0).toArray) w := by
  have := (zero_of_info zeroI).1 w
  rwa [zero_ls] at this
theorem idx (f : Nat → Int) (i : Nat) (h : i < 256) (w : World) : (Instr.index 22 (.agg (lsI 256 f).toArray) (.int .i64 i)).run Try.prog w = .ok (.int .i64 (f i)) w :=
  run_index_row Try.underlying22 (by kernel_rfl) (by kernel_rfl) (by kernel_rfl) _ _ _ _ h (lsI_get f h) w
set_option maxRecDepth 100000 in
theorem eqa (f g : Nat → Int) (w : World) : (binOp .eql 22 (.agg (lsI 256 f).toArray) (.agg (lsI 256 g).toArray)).run Try.prog w = .ok (.bool (eqA 256 f g)) w :=
  eql_of (run_eqarr Try.underlying22 (by kernel_rfl) (by kernel_rfl) (by kernel_rfl) Try.underlying3 9998 f g w)
/-- One number is set. -/
def upd (f : Nat → Int) (id v : Int) : Nat → Int := fun i => if 1 ≤ id ∧ id < 256 ∧ (i : Int) = id then v else f i
theorem blkA {w : World} {g : Nat} {f : Nat → Int} (h : w.heap[g]? = some (.cells (lsI 256 f).toArray 22 (0, 0))) {i : Nat} (hi : i < 256) : w.cell? ⟨g, i, none⟩ = some (.int .i64 (f i)) := by
  rw [cell_block h]; simpa using lsI_get f hi
set_option maxHeartbeats 4000000 in
set_option maxRecDepth 100000 in
theorem set_ok (f : Nat → Int) (id v : Int) (w : World) (i1 : -9223372036854775808 ≤ id) (i2 : id ≤ 9223372036854775807) :
    Calls Try.prog 15 #[.agg (lsI 256 f).toArray, .int .i64 id, .int .i64 v] w fun e w' => e = .returned (.agg (lsI 256 (upd f id v)).toArray) ∧ Below w.heap.size w w' := by
  have hz := zeroW
  generalize hZ : (lsI 256 fun _ => 0) = Z at *
  have hZl : Z.toArray.size = 256 := by rw [← hZ, lsI_size]
  have HZ := Lib.hid hZl; clear hZl hZ
  -- the end of it, whatever was set
  have fin : ∀ (W : World) (u : Nat → Int), W.heap[w.heap.size]? = some (.cells (lsI 256 u).toArray 22 (0, 0)) → W.heap[w.heap.size + 1]? = some (.cells Z.toArray 22 (0, 0)) → Below w.heap.size w W →
      (∀ i, i < 256 → u i = upd f id v i) → (loadVar 22 ⟨w.heap.size + 1, 0, none⟩).run Try.prog (W.setRow (w.heap.size + 1) (lsI 256 u).toArray) = .ok (.agg (lsI 256 (upd f id v)).toArray) (W.setRow (w.heap.size + 1) (lsI 256 u).toArray) ∧
        Below w.heap.size w (W.setRow (w.heap.size + 1) (lsI 256 u).toArray) := by
    intro W u h1 h2 h3 h4
    rw [← lsI_congr h4]
    refine ⟨run_loadVar_row _ _ 22 22 _ (0, 0) _ (by simp only [World.setRow, Array.getElem?_modify, h2]; simp) Try.underlying22 rfl (inf u), ?_⟩
    exact h3.trans ⟨rfl, rfl, rfl, by simp [World.setRow], fun k hk => by simp only [World.setRow, Array.getElem?_modify]; rw [if_neg (by omega)]⟩
  have FIN := Lib.hid fin; clear fin
  by_cases h : 1 ≤ id ∧ id < 256
  · obtain ⟨k, rfl⟩ := Int.eq_ofNat_of_zero_le (by omega : 0 ≤ id)
    have hk : k < 256 := by omega
    have hk1 : 1 ≤ k := by omega
    have hLk := lsI_get f hk
    have hset := lsI_set 256 f k v
    have hu : ∀ i, i < 256 → (fun i => if i = k then v else f i) i = upd f k v i := fun i hi => by
      unfold upd
      by_cases e : i = k
      · rw [if_pos (by omega)]; exact if_pos e
      · rw [if_neg (by omega)]; exact if_neg e
    generalize hL : lsI 256 f = L at *
    have HS := Lib.hid (And.intro hset hu); clear hset hu hL h
    go_enter Try.func15, Try.ntmps15
    have HI : (Try.prog.info? 22).map (·.size) = some (L.set k (.int .i64 v)).toArray.size ∧ Z.toArray.size = (L.set k (.int .i64 v)).toArray.size ∧ (L.set k (.int .i64 v)).toArray.all (·.oneCell') = true := by
      rw [HS.out.1]; exact ⟨inf _, by rw [HZ.out, lsI_size], lsI_all _ _⟩
    have HI := Lib.hid HI
    have HF := FIN.out _ _ (alloc_old (alloc_at (w := w) _ rfl) _) (alloc_at _ (by simp)) (below_alloc (below_alloc1 _ _) _) HS.out.2
    rw [← HS.out.1] at HF
    have HG := Lib.hid HF; clear HF
    go_wp2_with (first
      | (with_reducible refine wpList_load_row rfl 22 _ rfl w.heap.size rfl 22 (L.set k (.int .i64 v)).toArray (0, 0) _ (alloc_old (alloc_at _ rfl) _) Try.underlying22 rfl HI.out.1 ?_)
      | (with_reducible refine wpList_store_row rfl 22 _ _ rfl (w.heap.size + 1) (L.set k (.int .i64 v)).toArray rfl rfl 22 Z.toArray (alloc_at _ (by simp)) HI.out.1 HI.out.2.1 HI.out.2.2 ?_))
    refine bodyPost_ret (v := .agg (lsI 256 (upd f k v)).toArray) (by simp [results, Try.results15, asAddr, HG.out.1]) rfl ⟨rfl, HG.out.2⟩
  · have hu : ∀ i, i < 256 → f i = upd f id v i := fun i hi => by unfold upd; rw [if_neg (by omega)]
    generalize hL : lsI 256 f = L at *
    have HS := Lib.hid (And.intro hL hu); clear hu hL
    have HF := FIN.out _ f (by rw [HS.out.1]; exact (alloc_old (alloc_at (w := w) (.cells L.toArray 22) rfl) (.cells Z.toArray 22))) (alloc_at _ (by simp)) (below_alloc (below_alloc1 _ _) _) HS.out.2
    rw [HS.out.1] at HF
    have HG := Lib.hid HF; clear HF
    have HI : (Try.prog.info? 22).map (·.size) = some L.toArray.size ∧ Z.toArray.size = L.toArray.size ∧ L.toArray.all (·.oneCell') = true := by
      rw [← HS.out.1]; exact ⟨inf _, by rw [HZ.out, lsI_size], lsI_all _ _⟩
    have HI := Lib.hid HI
    by_cases h1 : 1 ≤ id
    · have h2 : ¬ id < 256 := by omega
      clear h
      go_enter Try.func15, Try.ntmps15
      go_wp2_with (first
        | (with_reducible refine wpList_load_row rfl 22 _ rfl w.heap.size rfl 22 L.toArray (0, 0) _ (alloc_old (alloc_at _ rfl) _) Try.underlying22 rfl HI.out.1 ?_)
        | (with_reducible refine wpList_store_row rfl 22 _ _ rfl (w.heap.size + 1) L.toArray rfl rfl 22 Z.toArray (alloc_at _ (by simp)) HI.out.1 HI.out.2.1 HI.out.2.2 ?_))
      refine bodyPost_ret (v := .agg (lsI 256 (upd f id v)).toArray) (by simp [results, Try.results15, asAddr, HG.out.1]) rfl ⟨rfl, HG.out.2⟩
    · clear h
      go_enter Try.func15, Try.ntmps15
      go_wp2_with (first
        | (with_reducible refine wpList_load_row rfl 22 _ rfl w.heap.size rfl 22 L.toArray (0, 0) _ (alloc_old (alloc_at _ rfl) _) Try.underlying22 rfl HI.out.1 ?_)
        | (with_reducible refine wpList_store_row rfl 22 _ _ rfl (w.heap.size + 1) L.toArray rfl rfl 22 Z.toArray (alloc_at _ (by simp)) HI.out.1 HI.out.2.1 HI.out.2.2 ?_))
      refine bodyPost_ret (v := .agg (lsI 256 (upd f id v)).toArray) (by simp [results, Try.results15, asAddr, HG.out.1]) rfl ⟨rfl, HG.out.2⟩
end Go.Proofs.Ytjikndfpkhgnkaa.Nm
