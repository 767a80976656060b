/- The walks over outline.Point and croftlaw37.point. (Printed by gen/point_region.py.) -/
import Derived.Test.YtjhhknkhgilecaaN3
import Derived.Test.YtjhhknkhgilecaaLio
import Derived.Test.YtjhhknkhgilecaaPtD
namespace Go.Proofs.Ytjhhknkhgilecaa.Ou
open Go.RowKit Lt Pt
set_option linter.unusedVariables false
set_option linter.unusedSimpArgs false
def ptD (p : PtS) : ByteArray := bstr (dec p.id) ++ ByteArray.mk #[32] ++ bstr (dec (p.x : Int)) ++ ByteArray.mk #[32] ++ bstr (dec (p.y : Int))
set_option maxHeartbeats 4000000 in
set_option maxRecDepth 100000 in
theorem opoint_ok (p : PtS) (w : World) (hf : p.fine) :
    Calls Try.prog 19 #[Pt.pv p] w fun e w' => e = .returned (.string (ptD p)) ∧ Below w.heap.size w w' := by
  obtain ⟨f1, f2, f3, f4⟩ := hf
  obtain ⟨id, x, y, d⟩ := p
  simp only at f1 f2 f3 f4
  have h1 := fun (W : World) => number_ok id W f1
  have h2 : ∀ W : World, Calls Try.prog 17 #[.int .i64 (IntKind.i64.wrap (x : Int))] W fun e w' => e = .returned (.string (bstr (dec (x : Int)))) ∧ Below W.heap.size W w' := fun W => by
    rw [show IntKind.i64.wrap (x : Int) = (x : Int) from by rw [IntKind.wrap_i64]; omega]; exact number_ok (x : Int) W (by omega)
  have h3 : ∀ W : World, Calls Try.prog 17 #[.int .i64 (IntKind.i64.wrap (y : Int))] W fun e w' => e = .returned (.string (bstr (dec (y : Int)))) ∧ Below W.heap.size W w' := fun W => by
    rw [show IntKind.i64.wrap (y : Int) = (y : Int) from by rw [IntKind.wrap_i64]; omega]; exact number_ok (y : Int) W (by omega)
  have l1 := dec_len f1
  have l2 := dec_len (z := (x : Int)) (by omega)
  have l3 := dec_len (z := (y : Int)) (by omega)
  have z1 := bstr_size (dec id)
  have z2 := bstr_size (dec (x : Int))
  have z3 := bstr_size (dec (y : Int))
  unfold ptD
  simp only
  obtain ⟨s1, e1⟩ : ∃ s, bstr (dec id) = s := ⟨_, rfl⟩
  obtain ⟨s2, e2⟩ : ∃ s, bstr (dec (x : Int)) = s := ⟨_, rfl⟩
  obtain ⟨s3, e3⟩ : ∃ s, bstr (dec (y : Int)) = s := ⟨_, rfl⟩
  rw [e1] at z1
  rw [e2] at z2
  rw [e3] at z3
  simp only [e1] at h1
  simp only [e2] at h2
  simp only [e3] at h3
  rw [e1, e2, e3]
  have a1 : ¬ 9223372036854775807 < s1.size + 1 := by omega
  have a2 : ¬ 9223372036854775807 < s1.size + 1 + s2.size := by omega
  have a3 : ¬ 9223372036854775807 < s1.size + 1 + s2.size + 1 := by omega
  have a4 : ¬ 9223372036854775807 < s1.size + 1 + s2.size + 1 + s3.size := by omega
  have HN := Lib.hid (And.intro h1 (And.intro h2 h3)); clear h1 h2 h3 e1 e2 e3 z1 z2 z3 l1 l2 l3 f1 f4
  have hg := alloc_at (w := w) (.cells #[.int .i64 id, .int .u32 (x : Nat), .int .u32 (y : Nat), .string d] 41) rfl
  have hb0 := below_alloc1 w (.cells #[.int .i64 id, .int .u32 (x : Nat), .int .u32 (y : Nat), .string d] 41)
  have HG := Lib.hid (And.intro hg hb0); clear hg hb0
  go_enter Try.func19, Try.ntmps19
  go_upto_region 1 with (fail)
  generalize (w.alloc _) = w0 at *
  have HQ := Lib.hid (fun (W : World) (hb : Below w0.heap.size w0 W) => (cells4 (block_up HG.out.1 hb)))
  refine wp_region_held_drew (S := fun W => (W.cell? ⟨w.heap.size, 0, none⟩ = some (.int .i64 id) ∧ W.cell? ⟨w.heap.size, 1, none⟩ = some (.int .u32 (x : Nat)) ∧ W.cell? ⟨w.heap.size, 2, none⟩ = some (.int .u32 (y : Nat)) ∧ W.cell? ⟨w.heap.size, 3, none⟩ = some (.string d)) ∧ Below w0.heap.size w0 W) (by kernel_rfl) ⟨HQ.out _ below_drew1, below_drew1⟩ (fun hHeld0 => ?_)
  have Hb := Lib.hid (below_drew1 (w := w0))
  generalize (World.drew w0) = Wc at *
  refine wpAnyH_take (i := 0) (v := ?_) rfl (by kernel_rfl) (by kernel_rfl) (by kernel_rfl) (fun _ _ _ h => h) (Or.inl ⟨by kernel_rfl, ?_⟩) (by assumption) ?_; rotate_left; (focus (intro w hSw; (try dsimp only at hSw); go_simp; (try with_reducible rfl); done)); (try simp only [Act.put, List.getElem_toArray, List.getElem_cons_succ, List.getElem_cons_zero, List.setIfInBounds_toArray, List.set_cons_zero, List.set_cons_succ])
  refine wpAnyH_take (i := 1) (v := ?_) rfl (by kernel_rfl) (by kernel_rfl) (by kernel_rfl) (fun _ _ _ h => h) (Or.inl ⟨by kernel_rfl, ?_⟩) (by assumption) ?_; rotate_left; (focus (intro w hSw; (try dsimp only at hSw); go_simp; (try with_reducible rfl); done)); (try simp only [Act.put, List.getElem_toArray, List.getElem_cons_succ, List.getElem_cons_zero, List.setIfInBounds_toArray, List.set_cons_zero, List.set_cons_succ])
  refine wpAnyH_take (i := 4) (v := ?_) rfl (by kernel_rfl) (by kernel_rfl) (by kernel_rfl) (fun _ _ _ h => h) (Or.inl ⟨by kernel_rfl, ?_⟩) (by assumption) ?_; rotate_left; (focus (intro w hSw; (try dsimp only at hSw); go_simp; (try with_reducible rfl); done)); (try simp only [Act.put, List.getElem_toArray, List.getElem_cons_succ, List.getElem_cons_zero, List.setIfInBounds_toArray, List.set_cons_zero, List.set_cons_succ])
  refine wpAnyH_take (i := 5) (v := ?_) rfl (by kernel_rfl) (by kernel_rfl) (by kernel_rfl) (fun _ _ _ h => h) (Or.inl ⟨by kernel_rfl, ?_⟩) (by assumption) ?_; rotate_left; (focus (intro w hSw; (try dsimp only at hSw); go_simp; (try with_reducible rfl); done)); (try simp only [Act.put, List.getElem_toArray, List.getElem_cons_succ, List.getElem_cons_zero, List.setIfInBounds_toArray, List.set_cons_zero, List.set_cons_succ])
  refine wpAnyH_take (i := 6) (v := ?_) rfl (by kernel_rfl) (by kernel_rfl) (by kernel_rfl) (fun _ _ _ h => h) (Or.inl ⟨by kernel_rfl, ?_⟩) (by assumption) ?_; rotate_left; (focus (intro w hSw; (try dsimp only at hSw); go_simp; (try with_reducible rfl); done)); (try simp only [Act.put, List.getElem_toArray, List.getElem_cons_succ, List.getElem_cons_zero, List.setIfInBounds_toArray, List.set_cons_zero, List.set_cons_succ])
  refine wpAnyH_take (i := 10) (v := ?_) rfl (by kernel_rfl) (by kernel_rfl) (by kernel_rfl) (fun _ _ _ h => h) (Or.inl ⟨by kernel_rfl, ?_⟩) (by assumption) ?_; rotate_left; (focus (intro w hSw; (try dsimp only at hSw); go_simp; (try with_reducible rfl); done)); (try simp only [Act.put, List.getElem_toArray, List.getElem_cons_succ, List.getElem_cons_zero, List.setIfInBounds_toArray, List.set_cons_zero, List.set_cons_succ])
  refine wpAnyH_take (i := 11) (v := ?_) rfl (by kernel_rfl) (by kernel_rfl) (by kernel_rfl) (fun _ _ _ h => h) (Or.inl ⟨by kernel_rfl, ?_⟩) (by assumption) ?_; rotate_left; (focus (intro w hSw; (try dsimp only at hSw); go_simp; (try with_reducible rfl); done)); (try simp only [Act.put, List.getElem_toArray, List.getElem_cons_succ, List.getElem_cons_zero, List.setIfInBounds_toArray, List.set_cons_zero, List.set_cons_succ])
  refine wpAnyH_take (i := 12) (v := ?_) rfl (by kernel_rfl) (by kernel_rfl) (by kernel_rfl) (fun _ _ _ h => h) (Or.inl ⟨by kernel_rfl, ?_⟩) (by assumption) ?_; rotate_left; (focus (intro w hSw; (try dsimp only at hSw); go_simp; (try with_reducible rfl); done)); (try simp only [Act.put, List.getElem_toArray, List.getElem_cons_succ, List.getElem_cons_zero, List.setIfInBounds_toArray, List.set_cons_zero, List.set_cons_succ])
  refine wpAnyH_ready (rs := [2]) (by kernel_rfl) (by simp) ?_
  refine AllReadyH.cons rfl (fun K hK => ?_) AllReadyH.nil
  (try simp only [List.getElem_toArray, List.getElem_cons_succ, List.getElem_cons_zero])
  go_simp
  (with_reducible refine (HN.out.1 _).mono ?_); rintro e W1 ⟨rfl, hb⟩
  have Hb1 := Lib.hid (below_up Hb.out hb); clear hb
  refine hK.out _ _ (⟨HQ.out _ Hb1.out, Hb1.out⟩) (fun hHeld => ?_)
  clear hK K
  (try simp only [Act.put, List.getElem_toArray, List.getElem_cons_succ, List.getElem_cons_zero, List.setIfInBounds_toArray, List.set_cons_zero, List.set_cons_succ])
  refine wpAnyH_take (i := 3) (v := ?_) rfl (by kernel_rfl) (by kernel_rfl) (by kernel_rfl) (fun _ _ _ h => h) (Or.inl ⟨by kernel_rfl, ?_⟩) (by assumption) ?_; rotate_left; (focus (intro w hSw; (try dsimp only at hSw); go_simp; (try with_reducible rfl); done)); (try simp only [Act.put, List.getElem_toArray, List.getElem_cons_succ, List.getElem_cons_zero, List.setIfInBounds_toArray, List.set_cons_zero, List.set_cons_succ])
  refine wpAnyH_ready (rs := [7]) (by kernel_rfl) (by simp) ?_
  refine AllReadyH.cons rfl (fun K hK => ?_) AllReadyH.nil
  (try simp only [List.getElem_toArray, List.getElem_cons_succ, List.getElem_cons_zero])
  go_simp
  (with_reducible refine (HN.out.2.1 _).mono ?_); rintro e W2 ⟨rfl, hb⟩
  have Hb2 := Lib.hid (below_up Hb1.out hb); clear hb
  refine hK.out _ _ (⟨HQ.out _ Hb2.out, Hb2.out⟩) (fun hHeld => ?_)
  clear hK K
  (try simp only [Act.put, List.getElem_toArray, List.getElem_cons_succ, List.getElem_cons_zero, List.setIfInBounds_toArray, List.set_cons_zero, List.set_cons_succ])
  refine wpAnyH_take (i := 8) (v := ?_) rfl (by kernel_rfl) (by kernel_rfl) (by kernel_rfl) (fun _ _ _ h => h) (Or.inl ⟨by kernel_rfl, ?_⟩) (by assumption) ?_; rotate_left; (focus (intro w hSw; (try dsimp only at hSw); go_simp; (try with_reducible rfl); done)); (try simp only [Act.put, List.getElem_toArray, List.getElem_cons_succ, List.getElem_cons_zero, List.setIfInBounds_toArray, List.set_cons_zero, List.set_cons_succ])
  refine wpAnyH_take (i := 9) (v := ?_) rfl (by kernel_rfl) (by kernel_rfl) (by kernel_rfl) (fun _ _ _ h => h) (Or.inl ⟨by kernel_rfl, ?_⟩) (by assumption) ?_; rotate_left; (focus (intro w hSw; (try dsimp only at hSw); go_simp; (try with_reducible rfl); done)); (try simp only [Act.put, List.getElem_toArray, List.getElem_cons_succ, List.getElem_cons_zero, List.setIfInBounds_toArray, List.set_cons_zero, List.set_cons_succ])
  refine wpAnyH_ready (rs := [13]) (by kernel_rfl) (by simp) ?_
  refine AllReadyH.cons rfl (fun K hK => ?_) AllReadyH.nil
  (try simp only [List.getElem_toArray, List.getElem_cons_succ, List.getElem_cons_zero])
  go_simp
  (with_reducible refine (HN.out.2.2 _).mono ?_); rintro e W3 ⟨rfl, hb⟩
  have Hb3 := Lib.hid (below_up Hb2.out hb); clear hb
  refine hK.out _ _ (⟨HQ.out _ Hb3.out, Hb3.out⟩) (fun hHeld => ?_)
  clear hK K
  (try simp only [Act.put, List.getElem_toArray, List.getElem_cons_succ, List.getElem_cons_zero, List.setIfInBounds_toArray, List.set_cons_zero, List.set_cons_succ])
  refine wpAnyH_take (i := 14) (v := ?_) rfl (by kernel_rfl) (by kernel_rfl) (by kernel_rfl) (fun _ _ _ h => h) (Or.inl ⟨by kernel_rfl, ?_⟩) (by assumption) ?_; rotate_left; (focus (intro w hSw; (try dsimp only at hSw); go_simp; (try with_reducible rfl); done)); (try simp only [Act.put, List.getElem_toArray, List.getElem_cons_succ, List.getElem_cons_zero, List.setIfInBounds_toArray, List.set_cons_zero, List.set_cons_succ])
  refine wpAnyH_take (i := 15) (v := ?_) rfl (by kernel_rfl) (by kernel_rfl) (by kernel_rfl) (fun _ _ _ h => h) (Or.inl ⟨by kernel_rfl, ?_⟩) (by assumption) ?_; rotate_left; (focus (intro w hSw; (try dsimp only at hSw); go_simp; (try with_reducible rfl); done)); (try simp only [Act.put, List.getElem_toArray, List.getElem_cons_succ, List.getElem_cons_zero, List.setIfInBounds_toArray, List.set_cons_zero, List.set_cons_succ])
  refine wpAnyH_done (by kernel_rfl) ?_ _
  go_wp2
  go_ret
  exact ⟨rfl, below_up HG.out.2 Hb3.out⟩
set_option maxHeartbeats 4000000 in
set_option maxRecDepth 100000 in
theorem refp_ok (p : PtS) (w : World) (hf : p.fine) :
    Calls Try.prog 20 #[Pt.pv p] w fun e w' => e = .returned (.string (ptD p)) ∧ Below w.heap.size w w' := by
  obtain ⟨f1, f2, f3, f4⟩ := hf
  obtain ⟨id, x, y, d⟩ := p
  simp only at f1 f2 f3 f4
  have h1 := fun (W : World) => refnumber_ok id W f1
  have h2 : ∀ W : World, Calls Try.prog 18 #[.int .i64 (IntKind.i64.wrap (x : Int))] W fun e w' => e = .returned (.string (bstr (dec (x : Int)))) ∧ Below W.heap.size W w' := fun W => by
    rw [show IntKind.i64.wrap (x : Int) = (x : Int) from by rw [IntKind.wrap_i64]; omega]; exact refnumber_ok (x : Int) W (by omega)
  have h3 : ∀ W : World, Calls Try.prog 18 #[.int .i64 (IntKind.i64.wrap (y : Int))] W fun e w' => e = .returned (.string (bstr (dec (y : Int)))) ∧ Below W.heap.size W w' := fun W => by
    rw [show IntKind.i64.wrap (y : Int) = (y : Int) from by rw [IntKind.wrap_i64]; omega]; exact refnumber_ok (y : Int) W (by omega)
  have l1 := dec_len f1
  have l2 := dec_len (z := (x : Int)) (by omega)
  have l3 := dec_len (z := (y : Int)) (by omega)
  have z1 := bstr_size (dec id)
  have z2 := bstr_size (dec (x : Int))
  have z3 := bstr_size (dec (y : Int))
  unfold ptD
  simp only
  obtain ⟨s1, e1⟩ : ∃ s, bstr (dec id) = s := ⟨_, rfl⟩
  obtain ⟨s2, e2⟩ : ∃ s, bstr (dec (x : Int)) = s := ⟨_, rfl⟩
  obtain ⟨s3, e3⟩ : ∃ s, bstr (dec (y : Int)) = s := ⟨_, rfl⟩
  rw [e1] at z1
  rw [e2] at z2
  rw [e3] at z3
  simp only [e1] at h1
  simp only [e2] at h2
  simp only [e3] at h3
  rw [e1, e2, e3]
  have a1 : ¬ 9223372036854775807 < s1.size + 1 := by omega
  have a2 : ¬ 9223372036854775807 < s1.size + 1 + s2.size := by omega
  have a3 : ¬ 9223372036854775807 < s1.size + 1 + s2.size + 1 := by omega
  have a4 : ¬ 9223372036854775807 < s1.size + 1 + s2.size + 1 + s3.size := by omega
  have HN := Lib.hid (And.intro h1 (And.intro h2 h3)); clear h1 h2 h3 e1 e2 e3 z1 z2 z3 l1 l2 l3 f1 f4
  have hg := alloc_at (w := w) (.cells #[.int .i64 id, .int .u32 (x : Nat), .int .u32 (y : Nat), .string d] 41) rfl
  have hb0 := below_alloc1 w (.cells #[.int .i64 id, .int .u32 (x : Nat), .int .u32 (y : Nat), .string d] 41)
  have HG := Lib.hid (And.intro hg hb0); clear hg hb0
  go_enter Try.func20, Try.ntmps20
  go_upto_region 1 with (fail)
  generalize (w.alloc _) = w0 at *
  have HQ := Lib.hid (fun (W : World) (hb : Below w0.heap.size w0 W) => (cells4 (block_up HG.out.1 hb)))
  refine wp_region_held_drew (S := fun W => (W.cell? ⟨w.heap.size, 0, none⟩ = some (.int .i64 id) ∧ W.cell? ⟨w.heap.size, 1, none⟩ = some (.int .u32 (x : Nat)) ∧ W.cell? ⟨w.heap.size, 2, none⟩ = some (.int .u32 (y : Nat)) ∧ W.cell? ⟨w.heap.size, 3, none⟩ = some (.string d)) ∧ Below w0.heap.size w0 W) (by kernel_rfl) ⟨HQ.out _ below_drew1, below_drew1⟩ (fun hHeld0 => ?_)
  have Hb := Lib.hid (below_drew1 (w := w0))
  generalize (World.drew w0) = Wc at *
  refine wpAnyH_take (i := 0) (v := ?_) rfl (by kernel_rfl) (by kernel_rfl) (by kernel_rfl) (fun _ _ _ h => h) (Or.inl ⟨by kernel_rfl, ?_⟩) (by assumption) ?_; rotate_left; (focus (intro w hSw; (try dsimp only at hSw); go_simp; (try with_reducible rfl); done)); (try simp only [Act.put, List.getElem_toArray, List.getElem_cons_succ, List.getElem_cons_zero, List.setIfInBounds_toArray, List.set_cons_zero, List.set_cons_succ])
  refine wpAnyH_take (i := 1) (v := ?_) rfl (by kernel_rfl) (by kernel_rfl) (by kernel_rfl) (fun _ _ _ h => h) (Or.inl ⟨by kernel_rfl, ?_⟩) (by assumption) ?_; rotate_left; (focus (intro w hSw; (try dsimp only at hSw); go_simp; (try with_reducible rfl); done)); (try simp only [Act.put, List.getElem_toArray, List.getElem_cons_succ, List.getElem_cons_zero, List.setIfInBounds_toArray, List.set_cons_zero, List.set_cons_succ])
  refine wpAnyH_take (i := 4) (v := ?_) rfl (by kernel_rfl) (by kernel_rfl) (by kernel_rfl) (fun _ _ _ h => h) (Or.inl ⟨by kernel_rfl, ?_⟩) (by assumption) ?_; rotate_left; (focus (intro w hSw; (try dsimp only at hSw); go_simp; (try with_reducible rfl); done)); (try simp only [Act.put, List.getElem_toArray, List.getElem_cons_succ, List.getElem_cons_zero, List.setIfInBounds_toArray, List.set_cons_zero, List.set_cons_succ])
  refine wpAnyH_take (i := 5) (v := ?_) rfl (by kernel_rfl) (by kernel_rfl) (by kernel_rfl) (fun _ _ _ h => h) (Or.inl ⟨by kernel_rfl, ?_⟩) (by assumption) ?_; rotate_left; (focus (intro w hSw; (try dsimp only at hSw); go_simp; (try with_reducible rfl); done)); (try simp only [Act.put, List.getElem_toArray, List.getElem_cons_succ, List.getElem_cons_zero, List.setIfInBounds_toArray, List.set_cons_zero, List.set_cons_succ])
  refine wpAnyH_take (i := 6) (v := ?_) rfl (by kernel_rfl) (by kernel_rfl) (by kernel_rfl) (fun _ _ _ h => h) (Or.inl ⟨by kernel_rfl, ?_⟩) (by assumption) ?_; rotate_left; (focus (intro w hSw; (try dsimp only at hSw); go_simp; (try with_reducible rfl); done)); (try simp only [Act.put, List.getElem_toArray, List.getElem_cons_succ, List.getElem_cons_zero, List.setIfInBounds_toArray, List.set_cons_zero, List.set_cons_succ])
  refine wpAnyH_take (i := 10) (v := ?_) rfl (by kernel_rfl) (by kernel_rfl) (by kernel_rfl) (fun _ _ _ h => h) (Or.inl ⟨by kernel_rfl, ?_⟩) (by assumption) ?_; rotate_left; (focus (intro w hSw; (try dsimp only at hSw); go_simp; (try with_reducible rfl); done)); (try simp only [Act.put, List.getElem_toArray, List.getElem_cons_succ, List.getElem_cons_zero, List.setIfInBounds_toArray, List.set_cons_zero, List.set_cons_succ])
  refine wpAnyH_take (i := 11) (v := ?_) rfl (by kernel_rfl) (by kernel_rfl) (by kernel_rfl) (fun _ _ _ h => h) (Or.inl ⟨by kernel_rfl, ?_⟩) (by assumption) ?_; rotate_left; (focus (intro w hSw; (try dsimp only at hSw); go_simp; (try with_reducible rfl); done)); (try simp only [Act.put, List.getElem_toArray, List.getElem_cons_succ, List.getElem_cons_zero, List.setIfInBounds_toArray, List.set_cons_zero, List.set_cons_succ])
  refine wpAnyH_take (i := 12) (v := ?_) rfl (by kernel_rfl) (by kernel_rfl) (by kernel_rfl) (fun _ _ _ h => h) (Or.inl ⟨by kernel_rfl, ?_⟩) (by assumption) ?_; rotate_left; (focus (intro w hSw; (try dsimp only at hSw); go_simp; (try with_reducible rfl); done)); (try simp only [Act.put, List.getElem_toArray, List.getElem_cons_succ, List.getElem_cons_zero, List.setIfInBounds_toArray, List.set_cons_zero, List.set_cons_succ])
  refine wpAnyH_ready (rs := [2]) (by kernel_rfl) (by simp) ?_
  refine AllReadyH.cons rfl (fun K hK => ?_) AllReadyH.nil
  (try simp only [List.getElem_toArray, List.getElem_cons_succ, List.getElem_cons_zero])
  go_simp
  (with_reducible refine (HN.out.1 _).mono ?_); rintro e W1 ⟨rfl, hb⟩
  have Hb1 := Lib.hid (below_up Hb.out hb); clear hb
  refine hK.out _ _ (⟨HQ.out _ Hb1.out, Hb1.out⟩) (fun hHeld => ?_)
  clear hK K
  (try simp only [Act.put, List.getElem_toArray, List.getElem_cons_succ, List.getElem_cons_zero, List.setIfInBounds_toArray, List.set_cons_zero, List.set_cons_succ])
  refine wpAnyH_take (i := 3) (v := ?_) rfl (by kernel_rfl) (by kernel_rfl) (by kernel_rfl) (fun _ _ _ h => h) (Or.inl ⟨by kernel_rfl, ?_⟩) (by assumption) ?_; rotate_left; (focus (intro w hSw; (try dsimp only at hSw); go_simp; (try with_reducible rfl); done)); (try simp only [Act.put, List.getElem_toArray, List.getElem_cons_succ, List.getElem_cons_zero, List.setIfInBounds_toArray, List.set_cons_zero, List.set_cons_succ])
  refine wpAnyH_ready (rs := [7]) (by kernel_rfl) (by simp) ?_
  refine AllReadyH.cons rfl (fun K hK => ?_) AllReadyH.nil
  (try simp only [List.getElem_toArray, List.getElem_cons_succ, List.getElem_cons_zero])
  go_simp
  (with_reducible refine (HN.out.2.1 _).mono ?_); rintro e W2 ⟨rfl, hb⟩
  have Hb2 := Lib.hid (below_up Hb1.out hb); clear hb
  refine hK.out _ _ (⟨HQ.out _ Hb2.out, Hb2.out⟩) (fun hHeld => ?_)
  clear hK K
  (try simp only [Act.put, List.getElem_toArray, List.getElem_cons_succ, List.getElem_cons_zero, List.setIfInBounds_toArray, List.set_cons_zero, List.set_cons_succ])
  refine wpAnyH_take (i := 8) (v := ?_) rfl (by kernel_rfl) (by kernel_rfl) (by kernel_rfl) (fun _ _ _ h => h) (Or.inl ⟨by kernel_rfl, ?_⟩) (by assumption) ?_; rotate_left; (focus (intro w hSw; (try dsimp only at hSw); go_simp; (try with_reducible rfl); done)); (try simp only [Act.put, List.getElem_toArray, List.getElem_cons_succ, List.getElem_cons_zero, List.setIfInBounds_toArray, List.set_cons_zero, List.set_cons_succ])
  refine wpAnyH_take (i := 9) (v := ?_) rfl (by kernel_rfl) (by kernel_rfl) (by kernel_rfl) (fun _ _ _ h => h) (Or.inl ⟨by kernel_rfl, ?_⟩) (by assumption) ?_; rotate_left; (focus (intro w hSw; (try dsimp only at hSw); go_simp; (try with_reducible rfl); done)); (try simp only [Act.put, List.getElem_toArray, List.getElem_cons_succ, List.getElem_cons_zero, List.setIfInBounds_toArray, List.set_cons_zero, List.set_cons_succ])
  refine wpAnyH_ready (rs := [13]) (by kernel_rfl) (by simp) ?_
  refine AllReadyH.cons rfl (fun K hK => ?_) AllReadyH.nil
  (try simp only [List.getElem_toArray, List.getElem_cons_succ, List.getElem_cons_zero])
  go_simp
  (with_reducible refine (HN.out.2.2 _).mono ?_); rintro e W3 ⟨rfl, hb⟩
  have Hb3 := Lib.hid (below_up Hb2.out hb); clear hb
  refine hK.out _ _ (⟨HQ.out _ Hb3.out, Hb3.out⟩) (fun hHeld => ?_)
  clear hK K
  (try simp only [Act.put, List.getElem_toArray, List.getElem_cons_succ, List.getElem_cons_zero, List.setIfInBounds_toArray, List.set_cons_zero, List.set_cons_succ])
  refine wpAnyH_take (i := 14) (v := ?_) rfl (by kernel_rfl) (by kernel_rfl) (by kernel_rfl) (fun _ _ _ h => h) (Or.inl ⟨by kernel_rfl, ?_⟩) (by assumption) ?_; rotate_left; (focus (intro w hSw; (try dsimp only at hSw); go_simp; (try with_reducible rfl); done)); (try simp only [Act.put, List.getElem_toArray, List.getElem_cons_succ, List.getElem_cons_zero, List.setIfInBounds_toArray, List.set_cons_zero, List.set_cons_succ])
  refine wpAnyH_take (i := 15) (v := ?_) rfl (by kernel_rfl) (by kernel_rfl) (by kernel_rfl) (fun _ _ _ h => h) (Or.inl ⟨by kernel_rfl, ?_⟩) (by assumption) ?_; rotate_left; (focus (intro w hSw; (try dsimp only at hSw); go_simp; (try with_reducible rfl); done)); (try simp only [Act.put, List.getElem_toArray, List.getElem_cons_succ, List.getElem_cons_zero, List.setIfInBounds_toArray, List.set_cons_zero, List.set_cons_succ])
  refine wpAnyH_done (by kernel_rfl) ?_ _
  go_wp2
  go_ret
  exact ⟨rfl, below_up HG.out.2 Hb3.out⟩
end Go.Proofs.Ytjhhknkhgilecaa.Ou
