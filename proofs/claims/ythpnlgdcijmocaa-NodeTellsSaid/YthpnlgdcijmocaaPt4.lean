/- The walk over croftref07.Point. -/
import Derived.Test.YthpnlgdcijmocaaPt3
import Derived.Deep.DeepCutAuto
import Derived.Deep.RegionHeld3
namespace Go.Proofs.Ythpnlgdcijmocaa.Pt
open Go.RowKit Lt
set_option linter.unusedVariables false
set_option linter.unusedSimpArgs false
theorem chk_zero {p : PtS} (h : p.chk = 0) : 1 ≤ p.id ∧ p.id ≤ 2147483647 ∧ p.d.size ≤ 16 := by
  unfold PtS.chk at h
  by_cases h1 : p.id < 1 ∨ 2147483647 < p.id
  · rw [if_pos h1] at h; cases h
  · rw [if_neg h1] at h
    by_cases h2 : 16 < p.d.size
    · rw [if_pos h2] at h; cases h
    · omega
theorem numB_len : ∀ (k N : Nat), (numB k N).length = k
  | 0, _ => rfl
  | k + 1, N => by unfold numB; simp [numB_len k]
theorem cat' (u v : Value) (a b : List UInt8) (w : World) (hu : BRd w u a) (hv : BRd w v b) (hl : a.length + b.length ≤ 140737488355328) :
    Calls Try.prog 80 #[u, v] w fun e w' => ∃ x, e = .returned x ∧ Below w.heap.size w w' ∧ BRd w' x (a ++ b) :=
  (cat_ok u v a b w hu hv hl).mono fun e w' ⟨x, h1, h2, h3⟩ => ⟨x, h1, h2, brd_own (by rw [← List.length_append] at h3; exact h3)⟩
theorem num' (N : Nat) (w : World) (hN : N ≤ 9223372036854775807) :
    Calls Try.prog 82 #[.int .i64 N, .int .i64 4] w fun e w' => ∃ v, e = .returned v ∧ Below w.heap.size w w' ∧ BRd w' v (numB 4 N) :=
  (refnum_pos N 4 w hN (by decide)).mono fun e w' ⟨x, h1, h2, h3⟩ => ⟨x, h1, h2, brd_own h3⟩
theorem wrap_pos (N : Nat) (h : N ≤ 9223372036854775807) : IntKind.i64.wrap (N : Int) = N := by rw [IntKind.wrap_i64]; omega
set_option maxHeartbeats 2000000 in
set_option maxRecDepth 100000 in
theorem refpoint_ok (p : PtS) (w : World) (hf : p.fine) (hc : p.chk = 0) :
    Calls Try.prog 81 #[pv p] w fun e w' => ∃ v, e = .returned v ∧ BRd w' v (ptB p) ∧ Below w.heap.size w w' := by
  obtain ⟨c1, c2, c3⟩ := chk_zero hc
  obtain ⟨_, f3, f4, _⟩ := hf
  obtain ⟨id, x, y, d⟩ := p
  simp only at c1 c2 c3 f3 f4
  obtain ⟨I, rfl⟩ := Int.eq_ofNat_of_zero_le (by omega : 0 ≤ id)
  unfold ptB
  simp only [Int.toNat_natCast]
  have L1 := numB_len 4 I
  have L2 := numB_len 4 x
  have L3 := numB_len 4 y
  have X1 : ((x : Nat) : Int) ≤ 4294967295 := by omega
  obtain ⟨B1, hB1⟩ : ∃ b, numB 4 I = b := ⟨_, rfl⟩
  obtain ⟨B2, hB2⟩ : ∃ b, numB 4 x = b := ⟨_, rfl⟩
  obtain ⟨B3, hB3⟩ : ∃ b, numB 4 y = b := ⟨_, rfl⟩
  have hn1 := fun W => num' I W (by omega)
  have hn2 : ∀ W, Calls Try.prog 82 #[.int .i64 (IntKind.i64.wrap (x : Nat)), .int .i64 4] W fun e w' => ∃ v, e = .returned v ∧ Below W.heap.size W w' ∧ BRd w' v (numB 4 x) := fun W => by
    rw [wrap_pos x (by omega)]; exact num' x W (by omega)
  have hn3 := fun W => num' y W (by omega)
  rw [hB1] at L1 hn1
  rw [hB2] at L2 hn2
  rw [hB3] at L3 hn3
  rw [hB1, hB2, hB3]
  have HN := Lib.hid (And.intro hn1 (And.intro hn2 hn3)); clear hn1 hn2 hn3 hB1 hB2 hB3 hc
  have hg := alloc_at (w := w) (.cells #[.int .i64 I, .int .u32 (x : Nat), .int .u32 (y : Nat), .string d] 58) rfl
  have hb0 := below_alloc1 w (.cells #[.int .i64 I, .int .u32 (x : Nat), .int .u32 (y : Nat), .string d] 58)
  go_enter Try.func81, Try.ntmps81
  go_upto_region 1 with (fail)
  generalize (w.alloc _) = w2 at *
  obtain ⟨q0, q1, q2, q3⟩ := cells4 hg
  have HG := Lib.hid (And.intro hg hb0); clear hg hb0
  go_region_held3 (fun W => W.cell? ⟨w.heap.size, 0, none⟩ = some (.int .i64 I) ∧ W.cell? ⟨w.heap.size, 1, none⟩ = some (.int .u32 (x : Nat)) ∧ Below w2.heap.size w2 W)
    (first
      | exact ⟨(cells4 (block_up HG.out.1 below_drew1)).1, (cells4 (block_up HG.out.1 below_drew1)).2.1, below_drew1⟩
      | exact ⟨(cells4 (block_up HG.out.1 HB.out)).1, (cells4 (block_up HG.out.1 HB.out)).2.1, HB.out⟩)
    (first
      | (go_at_call 82; with_reducible refine (HN.out.1 _).mono ?_; rintro e wa ⟨va, rfl, hb, ra⟩; have HB := Lib.hid (below_up (show Below w2.heap.size w2 _ from by (go_split_ands; assumption)) hb); clear hb)
      | (go_at_call 82; with_reducible refine (HN.out.2.1 _).mono ?_; rintro e wb ⟨vb, rfl, hb, rb⟩; have ra := ra.below hb; have HB := Lib.hid (below_up (show Below w2.heap.size w2 _ from by (go_split_ands; assumption)) hb); clear hb)
      | (go_at_call 80; with_reducible refine (cat' _ _ _ _ _ ra rb (by omega)).mono ?_; rintro e wc ⟨vc, rfl, hb, rc⟩; have HB := Lib.hid (below_up (show Below w2.heap.size w2 _ from by (go_split_ands; assumption)) hb); clear hb))
  have hds : d.data.toList.length = d.size := by rw [Array.length_toList]; rfl
  have h12 : (B1 ++ B2).length + B3.length = 12 := by simp; omega
  have h13 : (B1 ++ B2 ++ B3 ++ [UInt8.ofNat (d.size % 256)]).length = 12 + 1 := by simp; omega
  have hv : (#[Value.int .u8 d.size] : Array Value).toList = bv [UInt8.ofNat (d.size % 256)] := by rw [bv_of, Int.emod_eq_of_lt (by omega) (by omega)]
  have HV := Lib.hid hv; clear hv
  all_goals
    have hg3 := block_up HG.out.1 HB.out
    obtain ⟨q0, q1, q2, q3⟩ := cells4 hg3
    clear hg3
    go_wp2_with (first
      | (go_at_call 82; with_reducible refine (HN.out.2.2 _).mono ?_; rintro e wd ⟨vd, rfl, hb, rd⟩; have rc := rc.below hb; have HB := Lib.hid (below_up HB.out hb); clear hb)
      | (go_at_call 80; with_reducible refine (cat_ok _ _ _ _ _ rc rd (by simp; omega)).mono ?_; rintro e we ⟨ve, rfl, hb, re⟩
         rw [h12] at re
         obtain ⟨Ae, ce, rfl, _⟩ := own_rd re
         have hg4 := block_up HG.out.1 (below_up HB.out hb)
         obtain ⟨q0, q1, q2, q3⟩ := cells4 hg4
         have HE := Lib.hid (And.intro re (And.intro (below_up HB.out hb) hb.size)); clear hb re hg4)
      | (at_builtin; refine wpList_app rfl _ _ 78 rfl wd.heap.size 5 (.int .u8 0) 1 1 Try.underlying78 info_u8 rfl (by decide) (by decide) (.slice Ae 12 ce) 12 (bv (B1 ++ B2 ++ B3)) rfl (some ⟨we.heap.size, 0, none⟩) 1 1 (bv [UInt8.ofNat (d.size % 256)]) rfl (own_below HE.out.1 (below_alloc1 _ _)) rfl (rd_new _ _ _ _ HV.out) (bv_one _) (by decide) (Nat.le_trans HE.out.2.2 (below_alloc1 _ _).size) ?_
         intro A5 c5 w5 hown hgrow hat
         rw [← bv_append] at hown
         have hb5 := below_grown (below_up HE.out.2.1 (below_alloc1 _ _)) hgrow (fun b e => Nat.le_trans HB.out.size (own_base HE.out.1 b e))
         obtain ⟨q0, q1, q2, q3⟩ := cells4 (block_up HG.out.1 hb5)
         have hr5 : BRd w5 (.slice A5 13 c5) (B1 ++ B2 ++ B3 ++ [UInt8.ofNat (d.size % 256)]) := brd_own hown
         have hcv := Lib.run_convert_string_bytes (P := Try.prog) w5 9 78 5 d Try.underlying9 Try.underlying78 Try.underlying5
         have hbb := below_bytes w5 5 d
         have hrd := brd_bytes w5 5 d
         generalize Lib.bytesWorld w5 5 d = w6 at *
         have H5 := Lib.hid (And.intro (below_up hb5 hbb) (And.intro (hr5.below hbb) hrd)); clear hb5 hr5 hown hgrow hat hrd hbb))
    with_reducible refine (cat' _ _ _ _ _ H5.out.2.1 H5.out.2.2 (by rw [h13, hds]; omega)).mono ?_; rintro e w7 ⟨v7, rfl, hb, r7⟩
    have H7 := Lib.hid (And.intro r7 (below_up HG.out.2 (below_up H5.out.1 hb))); clear hb r7
    go_wp2
    go_ret
    exact ⟨_, rfl, H7.out.1, H7.out.2⟩
end Go.Proofs.Ythpnlgdcijmocaa.Pt
