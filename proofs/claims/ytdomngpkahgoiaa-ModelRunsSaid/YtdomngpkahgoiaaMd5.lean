/- The walks over croftlaw29.alive, ModelNobody. -/
import Derived.Test.YtdomngpkahgoiaaMd4
namespace Go.Proofs.Ytdomngpkahgoiaa.Md
open Go.RowKit Pt St Rg Ti Wi
set_option linter.unusedVariables false
set_option linter.unusedSimpArgs false
def five : PtS := ⟨5, 0, 0, ⟨#[]⟩⟩
theorem five_new : ([five, five].foldl (fun o p => insL p o) []) = [five] := by
  have h1 : insC five [] = 0 := by decide
  have h2 : insL five [] = [five] := by unfold insL; rw [if_pos h1]; simp [byId]
  have h3 : insC five [five] = 22 := by decide
  have h4 : insL five [five] = [five] := by unfold insL; rw [h3, if_neg (by decide)]
  simp only [List.foldl_cons, List.foldl_nil, h2, h4]
set_option maxHeartbeats 2000000 in
set_option maxRecDepth 100000 in
theorem alive_ok (w : World) : Calls Try.prog 23 #[] w fun e w' => e = .returned (.bool true) ∧ Below w.heap.size w w' := by
  have hi : PRow (w.alloc (.cells #[.int .i64 5, .int .u32 0, .int .u32 0, .string ⟨#[]⟩, .int .i64 5, .int .u32 0, .int .u32 0, .string ⟨#[]⟩] 56)) (.slice (some ⟨w.heap.size, 0, none⟩) 2 2) [five, five] := by
    have := own_new w w.heap.size 56 4 2 #[.int .i64 5, .int .u32 0, .int .u32 0, .string ⟨#[]⟩, .int .i64 5, .int .u32 0, .int .u32 0, .string ⟨#[]⟩] (Nat.le_refl _) (by decide) rfl
    refine srd_own PtS.cells_len (by decide) (base := w.heap.size) (n := 2) (e := 56) ?_
    exact this
  have HN := Lib.hid (new_ok _ _ _ hi (by simp))
  rw [five_new] at HN
  have HB := Lib.hid (below_alloc1 w (.cells #[.int .i64 5, .int .u32 0, .int .u32 0, .string ⟨#[]⟩, .int .i64 5, .int .u32 0, .int .u32 0, .string ⟨#[]⟩] 56))
  have hz : (w.alloc (.cells #[.int .i64 5, .int .u32 0, .int .u32 0, .string ⟨#[]⟩, .int .i64 5, .int .u32 0, .int .u32 0, .string ⟨#[]⟩] 56)).heap.size = w.heap.size + 1 := by unfold World.alloc; simp
  rw [hz] at HN
  clear hi hz
  go_enter Try.func23, Try.ntmps23
  go_wp2_with fail
  (with_reducible refine HN.out.mono ?_); rintro e w1 ⟨u, rfl, hM, hb⟩
  have HM := Lib.hid hM
  have HB1 := Lib.hid (below_up HB.out (hb.mono (by unfold World.alloc; simp)))
  have HP := Lib.hid (points_ok hM (by simp))
  clear hM hb
  go_wp2_with fail
  (with_reducible refine HP.out.mono ?_); rintro e w2 ⟨v2, rfl, ho2, hb2⟩
  have HM2 := Lib.hid (HM.out.below hb2)
  have HB2 := Lib.hid (below_up HB1.out hb2)
  have HI := Lib.hid (insert_ok HM2.out (Nat.le_of_lt (Array.getElem?_eq_some_iff.1 HM2.out.blk).1) (by simp) five)
  rw [show insC five [five] = 22 by decide] at HI
  obtain ⟨A2, c2, rfl, _, _, _, _⟩ := own_rd ho2
  clear hb2 ho2
  go_wp2_with fail
  (refine HI.out.mono ?_); rintro e w3 ⟨u3, rfl, _, hF, _⟩
  have HB3 := Lib.hid (((Fr.of_below (S := fun k => w.heap.size ≤ k) HB2.out).trans hF (fun k _ h => by rw [h]; omega)).toBelow (fun _ h => h) (Nat.le_refl _))
  clear hF
  go_wp2
  go_ret
  exact ⟨rfl, HB3.out⟩
/-- What stands while nobody's models are asked. -/
def NSt (P R S k : Nat) (p : PtS) (r : RcS) (pk : Value) (W : World) : Prop :=
  W.cell? ⟨S, k, none⟩ = some pk ∧ (W.cell? ⟨P, 0, none⟩ = some (.int .i64 p.id) ∧ W.cell? ⟨P, 1, none⟩ = some (.int .u32 (p.x : Nat)) ∧ W.cell? ⟨P, 2, none⟩ = some (.int .u32 (p.y : Nat)) ∧ W.cell? ⟨P, 3, none⟩ = some (.string p.d)) ∧
  (W.cell? ⟨R, 0, none⟩ = some (.int .u32 (r.x0 : Nat)) ∧ W.cell? ⟨R, 1, none⟩ = some (.int .u32 (r.y0 : Nat)) ∧ W.cell? ⟨R, 2, none⟩ = some (.int .u32 (r.x1 : Nat)) ∧ W.cell? ⟨R, 3, none⟩ = some (.int .u32 (r.y1 : Nat)))
theorem NSt.below {P R S k : Nat} {p : PtS} {r : RcS} {pk : Value} {W W' : World} (h : NSt P R S k p r pk W) (hb : Below W.heap.size W W') : NSt P R S k p r pk W' :=
  ⟨cell_up h.1 hb, ⟨cell_up h.2.1.1 hb, cell_up h.2.1.2.1 hb, cell_up h.2.1.2.2.1 hb, cell_up h.2.1.2.2.2 hb⟩, cell_up h.2.2.1 hb, cell_up h.2.2.2.1 hb, cell_up h.2.2.2.2.1 hb, cell_up h.2.2.2.2.2 hb⟩
set_option maxHeartbeats 8000000 in
set_option maxRecDepth 100000 in
theorem nobody_walk (p : PtS) (r : RcS) (v : Value) (l : List PtS) (w : World) (hv : PRow w v l) (hl : l.length ≤ 4398046511000) :
    Calls Try.prog 8 #[pv p, rcv r, v] w fun e w' => e = .returned (.bool true) ∧ Below w.heap.size w w' := by
  have HV := Lib.hid hv
  have HAl := Lib.hid (fun W => alive_ok W)
  have s1 := fun (W : World) (o : Obj) => (show (W.alloc o).heap.size = W.heap.size + 1 by unfold World.alloc; simp)
  have hq1 := alloc_at (w := w) (.cells #[.int .i64 p.id, .int .u32 (p.x : Nat), .int .u32 (p.y : Nat), .string p.d] 56) rfl
  have hb1 := below_alloc1 w (.cells #[.int .i64 p.id, .int .u32 (p.x : Nat), .int .u32 (p.y : Nat), .string p.d] 56)
  have hz1 := s1 w (.cells #[.int .i64 p.id, .int .u32 (p.x : Nat), .int .u32 (p.y : Nat), .string p.d] 56)
  have hq2 := alloc_at (w := w.alloc (.cells #[.int .i64 p.id, .int .u32 (p.x : Nat), .int .u32 (p.y : Nat), .string p.d] 56)) (.cells #[.int .u32 (r.x0 : Nat), .int .u32 (r.y0 : Nat), .int .u32 (r.x1 : Nat), .int .u32 (r.y1 : Nat)] 24) hz1.symm
  have hq1' := alloc_old hq1 (.cells #[.int .u32 (r.x0 : Nat), .int .u32 (r.y0 : Nat), .int .u32 (r.x1 : Nat), .int .u32 (r.y1 : Nat)] 24)
  have hb2 := below_alloc hb1 (.cells #[.int .u32 (r.x0 : Nat), .int .u32 (r.y0 : Nat), .int .u32 (r.x1 : Nat), .int .u32 (r.y1 : Nat)] 24)
  have hz2 := s1 (w.alloc (.cells #[.int .i64 p.id, .int .u32 (p.x : Nat), .int .u32 (p.y : Nat), .string p.d] 56)) (.cells #[.int .u32 (r.x0 : Nat), .int .u32 (r.y0 : Nat), .int .u32 (r.x1 : Nat), .int .u32 (r.y1 : Nat)] 24)
  rw [hz1] at hz2
  have HB2 := Lib.hid (And.intro hq1' (And.intro hq2 hb2))
  have HZ2 := Lib.hid hz2
  clear hq1 hb1 hz1 hq2 hq1' hb2 hz2
  obtain ⟨A, cap, rfl, _, _⟩ := hv
  go_enter Try.func8, Try.ntmps8
  go_upto_region 1 with (fail)
  generalize ((w.alloc _).alloc _) = w1 at *
  have q1 := alloc_at (w := w1) (.cells #[.slice none 0 0, .bool false] 73) rfl
  have z1 := s1 w1 (.cells #[.slice none 0 0, .bool false] 73)
  have q2 := alloc_at (w := w1.alloc (.cells #[.slice none 0 0, .bool false] 73)) (.cells #[.pointer none, .pointer (some ⟨w1.heap.size, 0, none⟩)] 51) z1.symm
  have q1' := alloc_old q1 (.cells #[.pointer none, .pointer (some ⟨w1.heap.size, 0, none⟩)] 51)
  have b2 := below_alloc (below_alloc1 w1 (.cells #[.slice none 0 0, .bool false] 73)) (.cells #[.pointer none, .pointer (some ⟨w1.heap.size, 0, none⟩)] 51)
  have HS := Lib.hid (And.intro q1' (And.intro q2 b2))
  rw [HZ2.out] at HS
  clear q1 z1 q2 q1' b2 s1
  go_upto_region 3 with (fail)
  rw [HZ2.out]
  generalize ((w1.alloc _).alloc _) = W0 at *
  have hbS : Below w1.heap.size w1 W0 := by have := HS.out.2.2; rwa [← HZ2.out] at this
  have HW0 := Lib.hid (below_up HB2.out.2.2 hbS)
  have HbS := Lib.hid hbS
  clear hbS
  have HK : Hid (∀ k, k < 2 → ∃ q : Option Addr, Nob W0 (.pointer q) ∧ NSt w.heap.size (w.heap.size + 1) (w.heap.size + 1 + 1 + 1) k p r (.pointer q) W0) := Lib.hid (fun k hk => by
    have c1 := cells4 (block_up HB2.out.1 HbS.out)
    have c2 := cells4 (block_up HB2.out.2.1 HbS.out)
    have c3 := cells2 HS.out.2.1
    have c4 := cells2 HS.out.1
    rcases (by omega : k = 0 ∨ k = 1) with rfl | rfl
    · exact ⟨none, .inl rfl, c3.1, c1, c2⟩
    · exact ⟨_, .inr ⟨_, rfl, c4.2⟩, c3.2, c1, c2⟩)
  clear HS HZ2 HbS
  go_wp2_with fail
  go_loopw [9] (fun vi W => ∃ k : Nat, vi = .int .i64 k ∧ k ≤ 2 ∧ Below W0.heap.size W0 W) (fun vi _ => 2 - (intOf vi).toNat)
  case atStart => exact ⟨0, rfl, by omega, Below.refl _ _⟩
  case round =>
  obtain ⟨k, rfl, hk, hb⟩ := hrel
  have HB := Lib.hid hb
  clear hb
  obtain ⟨w3, rfl⟩ : ∃ W, W = wr := ⟨_, rfl⟩
  by_cases hlt : k < 2
  · have d : decide (k < 2) = true := decide_eq_true hlt
    have di : decide ((k : Int) < 2) = true := decide_eq_true (by omega)
    have bi : (k : Int) < 2 := by omega
    obtain ⟨q, hnob, hst⟩ := HK.out k hlt
    have HNb := Lib.hid (fun W' (hb : Below w3.heap.size w3 W') => (hnob.below HB.out).below hb)
    have HSt := Lib.hid (fun W' (hb : Below w3.heap.size w3 W') => (hst.below HB.out).below hb)
    clear hnob hst
    go_upto_region 6 with (fail)
    go_cut [11] (fun v11 wx => v11 = .bool false ∧ Below w3.heap.size w3 wx)
    case first =>
      have HB0 := Lib.hid (below_drew1 (w := w3))
      refine beginS (S := fun W => W.cell? ⟨w.heap.size + 1 + 1 + 1, k, none⟩ = some (.pointer q) ∧ (W.cell? ⟨w.heap.size, 0, none⟩ = some (.int .i64 p.id) ∧ W.cell? ⟨w.heap.size, 1, none⟩ = some (.int .u32 (p.x : Nat)) ∧ W.cell? ⟨w.heap.size, 2, none⟩ = some (.int .u32 (p.y : Nat)) ∧ W.cell? ⟨w.heap.size, 3, none⟩ = some (.string p.d)) ∧ (W.cell? ⟨w.heap.size + 1, 0, none⟩ = some (.int .u32 (r.x0 : Nat)) ∧ W.cell? ⟨w.heap.size + 1, 1, none⟩ = some (.int .u32 (r.y0 : Nat)) ∧ W.cell? ⟨w.heap.size + 1, 2, none⟩ = some (.int .u32 (r.x1 : Nat)) ∧ W.cell? ⟨w.heap.size + 1, 3, none⟩ = some (.int .u32 (r.y1 : Nat)))) [] (by kernel_rfl) (HSt.out _ HB0.out) (fun hHeld0 => ?_)
      have HD := HB0
      clear HB0
      generalize (World.drew w3) = Wc at *
      refine takeF (i := 0) (v := ?_) rfl (by kernel_rfl) (fun _ _ _ h => h) (Or.inl ⟨by kernel_rfl, ?_⟩) (by assumption) ?_; rotate_left; (focus (intro w _; go_simp; (try with_reducible rfl); done)); (try simp only [Act.put, List.getElem_toArray, List.getElem_cons_succ, List.getElem_cons_zero, List.setIfInBounds_toArray, List.set_cons_zero, List.set_cons_succ])
      refine takeF (i := 1) (v := ?_) rfl (by kernel_rfl) (fun _ _ _ h => h) (Or.inl ⟨by kernel_rfl, ?_⟩) (by assumption) ?_; rotate_left; (focus (intro w _; go_simp; (try with_reducible rfl); done)); (try simp only [Act.put, List.getElem_toArray, List.getElem_cons_succ, List.getElem_cons_zero, List.setIfInBounds_toArray, List.set_cons_zero, List.set_cons_succ])
      refine takeF (i := 2) (v := ?_) rfl (by kernel_rfl) (fun _ _ _ h => h) (Or.inl ⟨by kernel_rfl, ?_⟩) (by assumption) ?_; rotate_left; (focus (intro w _; go_simp; (try with_reducible rfl); done)); (try simp only [Act.put, List.getElem_toArray, List.getElem_cons_succ, List.getElem_cons_zero, List.setIfInBounds_toArray, List.set_cons_zero, List.set_cons_succ])
      refine takeH (i := 3) (v := ?_) rfl (by kernel_rfl) (fun _ _ _ h => h) (Or.inl ⟨by kernel_rfl, ?_⟩) (by assumption) ?_; rotate_left; (focus (intro w hSw; (try dsimp only at hSw); go_simp; (try with_reducible rfl); done)); (try simp only [Act.put, List.getElem_toArray, List.getElem_cons_succ, List.getElem_cons_zero, List.setIfInBounds_toArray, List.set_cons_zero, List.set_cons_succ])
      refine takeF (i := 4) (v := ?_) rfl (by kernel_rfl) (fun _ _ _ h => h) (Or.inl ⟨by kernel_rfl, ?_⟩) (by assumption) ?_; rotate_left; (focus (intro w _; go_simp; (try with_reducible rfl); done)); (try simp only [Act.put, List.getElem_toArray, List.getElem_cons_succ, List.getElem_cons_zero, List.setIfInBounds_toArray, List.set_cons_zero, List.set_cons_succ])
      refine takeH (i := 5) (v := ?_) rfl (by kernel_rfl) (fun _ _ _ h => h) (Or.inl ⟨by kernel_rfl, ?_⟩) (by assumption) ?_; rotate_left; (focus (intro w hSw; (try dsimp only at hSw); go_simp; (try with_reducible rfl); done)); (try simp only [Act.put, List.getElem_toArray, List.getElem_cons_succ, List.getElem_cons_zero, List.setIfInBounds_toArray, List.set_cons_zero, List.set_cons_succ])
      clear hHeld0
      refine readyS (rs := [6, 10]) (by kernel_rfl) (by simp) ?_
      refine ReadyS.consH rfl (fun K hK => ?_) (ReadyS.consH rfl (fun K hK => ?_) ReadyS.nil)
      (try simp only [List.getElem_toArray, List.getElem_cons_succ, List.getElem_cons_zero])
      · go_simp
        (with_reducible refine (get_no (HNb.out _ HD.out) p.id).mono ?_); rintro e W1 ⟨rfl, hb⟩
        have HD1 := Lib.hid (below_up HD.out hb); clear hb
        refine hK.out _ _ (HSt.out _ HD1.out) (fun hHeld0 => ?_)
        clear hK K
        (try simp only [Act.put, List.getElem_toArray, List.getElem_cons_succ, List.getElem_cons_zero, List.setIfInBounds_toArray, List.set_cons_zero, List.set_cons_succ])
        refine takeF (i := 7) (v := ?_) rfl (by kernel_rfl) (fun _ _ _ h => h) (Or.inl ⟨by kernel_rfl, ?_⟩) (by assumption) ?_; rotate_left; (focus (intro w _; go_simp; (try with_reducible rfl); done)); (try simp only [Act.put, List.getElem_toArray, List.getElem_cons_succ, List.getElem_cons_zero, List.setIfInBounds_toArray, List.set_cons_zero, List.set_cons_succ])
        refine takeF (i := 8) (v := ?_) rfl (by kernel_rfl) (fun _ _ _ h => h) (Or.inl ⟨by kernel_rfl, ?_⟩) (by assumption) ?_; rotate_left; (focus (intro w _; go_simp; (try with_reducible rfl); done)); (try simp only [Act.put, List.getElem_toArray, List.getElem_cons_succ, List.getElem_cons_zero, List.setIfInBounds_toArray, List.set_cons_zero, List.set_cons_succ])
        refine takeF (i := 9) (v := ?_) rfl (by kernel_rfl) (fun _ _ _ h => h) (Or.inl ⟨by kernel_rfl, ?_⟩) (by assumption) ?_; rotate_left; (focus (intro w _; go_simp; (try with_reducible rfl); done)); (try simp only [Act.put, List.getElem_toArray, List.getElem_cons_succ, List.getElem_cons_zero, List.setIfInBounds_toArray, List.set_cons_zero, List.set_cons_succ])
        clear hHeld0
        refine readyS (rs := [10]) (by kernel_rfl) (by simp) ?_
        refine ReadyS.consH rfl (fun K hK => ?_) ReadyS.nil
        (try simp only [List.getElem_toArray, List.getElem_cons_succ, List.getElem_cons_zero])
        go_simp
        have HD2 := Lib.hid (below_up HD1.out (below_alloc1 W1 (.cells #[.int .i64 0, .int .u32 0, .int .u32 0, .string ⟨#[]⟩] 56)))
        have HQ2 := Lib.hid (alloc_at (w := W1) (.cells #[.int .i64 0, .int .u32 0, .int .u32 0, .string ⟨#[]⟩] 56) rfl)
        have HN2 := Lib.hid HD1.out.size
        generalize W1.heap.size = G at *
        refine hK.out _ _ (HSt.out _ HD2.out) (fun hHeld0 => ?_)
        clear hK K
        (try simp only [Act.put, List.getElem_toArray, List.getElem_cons_succ, List.getElem_cons_zero, List.setIfInBounds_toArray, List.set_cons_zero, List.set_cons_succ])
        generalize (World.alloc W1 _) = W2 at *
        clear hHeld0
        have fz := free_block HQ2.out
        obtain ⟨c0, c1, c2, c3⟩ := cells4 HQ2.out
        have HD3 := Lib.hid ((((HD2.out.setCell (p := ⟨G, 0, none⟩) HN2.out (.int .i64 0)).setCell (p := ⟨G, 1, none⟩) HN2.out (.int .u32 0)).setCell (p := ⟨G, 2, none⟩) HN2.out (.int .u32 0)).setCell (p := ⟨G, 3, none⟩) HN2.out (.string ⟨#[]⟩))
        refine readyS (rs := [11]) (by kernel_rfl) (by simp) ?_
        refine ReadyS.consH rfl (fun K hK => ?_) ReadyS.nil
        (try simp only [List.getElem_toArray, List.getElem_cons_succ, List.getElem_cons_zero])
        go_simp
        refine hK.out _ _ (HSt.out _ HD3.out) (fun hHeld0 => ?_)
        clear hK K c0 c1 c2 c3 fz
        (try simp only [Act.put, List.getElem_toArray, List.getElem_cons_succ, List.getElem_cons_zero, List.setIfInBounds_toArray, List.set_cons_zero, List.set_cons_succ])
        refine takeF (i := 12) (v := ?_) rfl (by kernel_rfl) (fun _ _ _ h => h) (Or.inl ⟨by kernel_rfl, ?_⟩) (by assumption) ?_; rotate_left; (focus (intro w _; go_simp; (try with_reducible rfl); done)); (try simp only [Act.put, List.getElem_toArray, List.getElem_cons_succ, List.getElem_cons_zero, List.setIfInBounds_toArray, List.set_cons_zero, List.set_cons_succ])
        clear hHeld0
        refine doneS (by kernel_rfl) ?_ _
        go_wp2
        go_meet
        case rel => exact ⟨rfl, HD3.out⟩
      · go_simp
        have HD1 := Lib.hid (below_up HD.out (below_alloc1 Wc (.cells #[.int .i64 0, .int .u32 0, .int .u32 0, .string ⟨#[]⟩] 56)))
        have HQ1 := Lib.hid (alloc_at (w := Wc) (.cells #[.int .i64 0, .int .u32 0, .int .u32 0, .string ⟨#[]⟩] 56) rfl)
        have HN2 := Lib.hid HD.out.size
        generalize Wc.heap.size = G at *
        refine hK.out _ _ (HSt.out _ HD1.out) (fun hHeld0 => ?_)
        clear hK K
        (try simp only [Act.put, List.getElem_toArray, List.getElem_cons_succ, List.getElem_cons_zero, List.setIfInBounds_toArray, List.set_cons_zero, List.set_cons_succ])
        generalize (World.alloc Wc _) = W1 at *
        clear hHeld0
        refine readyS (rs := [6]) (by kernel_rfl) (by simp) ?_
        refine ReadyS.consH rfl (fun K hK => ?_) ReadyS.nil
        (try simp only [List.getElem_toArray, List.getElem_cons_succ, List.getElem_cons_zero])
        go_simp
        (with_reducible refine (get_no (HNb.out _ HD1.out) p.id).mono ?_); rintro e W2 ⟨rfl, hb⟩
        have HD2 := Lib.hid (below_up HD1.out hb)
        have HQ2 := Lib.hid (block_up HQ1.out hb)
        clear hb
        refine hK.out _ _ (HSt.out _ HD2.out) (fun hHeld0 => ?_)
        clear hK K
        (try simp only [Act.put, List.getElem_toArray, List.getElem_cons_succ, List.getElem_cons_zero, List.setIfInBounds_toArray, List.set_cons_zero, List.set_cons_succ])
        refine takeF (i := 7) (v := ?_) rfl (by kernel_rfl) (fun _ _ _ h => h) (Or.inl ⟨by kernel_rfl, ?_⟩) (by assumption) ?_; rotate_left; (focus (intro w _; go_simp; (try with_reducible rfl); done)); (try simp only [Act.put, List.getElem_toArray, List.getElem_cons_succ, List.getElem_cons_zero, List.setIfInBounds_toArray, List.set_cons_zero, List.set_cons_succ])
        refine takeF (i := 8) (v := ?_) rfl (by kernel_rfl) (fun _ _ _ h => h) (Or.inl ⟨by kernel_rfl, ?_⟩) (by assumption) ?_; rotate_left; (focus (intro w _; go_simp; (try with_reducible rfl); done)); (try simp only [Act.put, List.getElem_toArray, List.getElem_cons_succ, List.getElem_cons_zero, List.setIfInBounds_toArray, List.set_cons_zero, List.set_cons_succ])
        refine takeF (i := 9) (v := ?_) rfl (by kernel_rfl) (fun _ _ _ h => h) (Or.inl ⟨by kernel_rfl, ?_⟩) (by assumption) ?_; rotate_left; (focus (intro w _; go_simp; (try with_reducible rfl); done)); (try simp only [Act.put, List.getElem_toArray, List.getElem_cons_succ, List.getElem_cons_zero, List.setIfInBounds_toArray, List.set_cons_zero, List.set_cons_succ])
        clear hHeld0
        have fz := free_block HQ2.out
        obtain ⟨c0, c1, c2, c3⟩ := cells4 HQ2.out
        have HD3 := Lib.hid ((((HD2.out.setCell (p := ⟨G, 0, none⟩) HN2.out (.int .i64 0)).setCell (p := ⟨G, 1, none⟩) HN2.out (.int .u32 0)).setCell (p := ⟨G, 2, none⟩) HN2.out (.int .u32 0)).setCell (p := ⟨G, 3, none⟩) HN2.out (.string ⟨#[]⟩))
        refine readyS (rs := [11]) (by kernel_rfl) (by simp) ?_
        refine ReadyS.consH rfl (fun K hK => ?_) ReadyS.nil
        (try simp only [List.getElem_toArray, List.getElem_cons_succ, List.getElem_cons_zero])
        go_simp
        refine hK.out _ _ (HSt.out _ HD3.out) (fun hHeld0 => ?_)
        clear hK K c0 c1 c2 c3 fz
        (try simp only [Act.put, List.getElem_toArray, List.getElem_cons_succ, List.getElem_cons_zero, List.setIfInBounds_toArray, List.set_cons_zero, List.set_cons_succ])
        refine takeF (i := 12) (v := ?_) rfl (by kernel_rfl) (fun _ _ _ h => h) (Or.inl ⟨by kernel_rfl, ?_⟩) (by assumption) ?_; rotate_left; (focus (intro w _; go_simp; (try with_reducible rfl); done)); (try simp only [Act.put, List.getElem_toArray, List.getElem_cons_succ, List.getElem_cons_zero, List.setIfInBounds_toArray, List.set_cons_zero, List.set_cons_succ])
        clear hHeld0
        refine doneS (by kernel_rfl) ?_ _
        go_wp2
        go_meet
        case rel => exact ⟨rfl, HD3.out⟩
    case rest =>
    obtain ⟨rfl, hbc⟩ := hcut
    have HBc := Lib.hid hbc
    clear hbc
    go_upto_region 7 with (fail)
    go_cut [85] (fun v85 wx => v85 = .bool false ∧ Below w3.heap.size w3 wx)
    case first =>
      have HD0 := Lib.hid (below_up HBc.out (below_drew1 (w := wc)))
      refine beginS (S := fun W => W.cell? ⟨w.heap.size + 1 + 1 + 1, k, none⟩ = some (.pointer q) ∧ (W.cell? ⟨w.heap.size, 0, none⟩ = some (.int .i64 p.id) ∧ W.cell? ⟨w.heap.size, 1, none⟩ = some (.int .u32 (p.x : Nat)) ∧ W.cell? ⟨w.heap.size, 2, none⟩ = some (.int .u32 (p.y : Nat)) ∧ W.cell? ⟨w.heap.size, 3, none⟩ = some (.string p.d)) ∧ (W.cell? ⟨w.heap.size + 1, 0, none⟩ = some (.int .u32 (r.x0 : Nat)) ∧ W.cell? ⟨w.heap.size + 1, 1, none⟩ = some (.int .u32 (r.y0 : Nat)) ∧ W.cell? ⟨w.heap.size + 1, 2, none⟩ = some (.int .u32 (r.x1 : Nat)) ∧ W.cell? ⟨w.heap.size + 1, 3, none⟩ = some (.int .u32 (r.y1 : Nat)))) [] (by kernel_rfl) (HSt.out _ HD0.out) (fun hHeld0 => ?_)
      generalize (World.drew wc) = Wc at *
      refine takeF (i := 0) (v := ?_) rfl (by kernel_rfl) (fun _ _ _ h => h) (Or.inl ⟨by kernel_rfl, ?_⟩) (by assumption) ?_; rotate_left; (focus (intro w _; go_simp; (try with_reducible rfl); done)); (try simp only [Act.put, List.getElem_toArray, List.getElem_cons_succ, List.getElem_cons_zero, List.setIfInBounds_toArray, List.set_cons_zero, List.set_cons_succ])
      refine takeF (i := 1) (v := ?_) rfl (by kernel_rfl) (fun _ _ _ h => h) (Or.inl ⟨by kernel_rfl, ?_⟩) (by assumption) ?_; rotate_left; (focus (intro w _; go_simp; (try with_reducible rfl); done)); (try simp only [Act.put, List.getElem_toArray, List.getElem_cons_succ, List.getElem_cons_zero, List.setIfInBounds_toArray, List.set_cons_zero, List.set_cons_succ])
      refine takeF (i := 2) (v := ?_) rfl (by kernel_rfl) (fun _ _ _ h => h) (Or.inl ⟨by kernel_rfl, ?_⟩) (by assumption) ?_; rotate_left; (focus (intro w _; go_simp; (try with_reducible rfl); done)); (try simp only [Act.put, List.getElem_toArray, List.getElem_cons_succ, List.getElem_cons_zero, List.setIfInBounds_toArray, List.set_cons_zero, List.set_cons_succ])
      refine takeF (i := 3) (v := ?_) rfl (by kernel_rfl) (fun _ _ _ h => h) (Or.inl ⟨by kernel_rfl, ?_⟩) (by assumption) ?_; rotate_left; (focus (intro w _; go_simp; (try with_reducible rfl); done)); (try simp only [Act.put, List.getElem_toArray, List.getElem_cons_succ, List.getElem_cons_zero, List.setIfInBounds_toArray, List.set_cons_zero, List.set_cons_succ])
      refine takeF (i := 4) (v := ?_) rfl (by kernel_rfl) (fun _ _ _ h => h) (Or.inl ⟨by kernel_rfl, ?_⟩) (by assumption) ?_; rotate_left; (focus (intro w _; go_simp; (try with_reducible rfl); done)); (try simp only [Act.put, List.getElem_toArray, List.getElem_cons_succ, List.getElem_cons_zero, List.setIfInBounds_toArray, List.set_cons_zero, List.set_cons_succ])
      refine takeH (i := 5) (v := ?_) rfl (by kernel_rfl) (fun _ _ _ h => h) (Or.inl ⟨by kernel_rfl, ?_⟩) (by assumption) ?_; rotate_left; (focus (intro w hSw; (try dsimp only at hSw); go_simp; (try with_reducible rfl); done)); (try simp only [Act.put, List.getElem_toArray, List.getElem_cons_succ, List.getElem_cons_zero, List.setIfInBounds_toArray, List.set_cons_zero, List.set_cons_succ])
      refine takeH (i := 6) (v := ?_) rfl (by kernel_rfl) (fun _ _ _ h => h) (Or.inl ⟨by kernel_rfl, ?_⟩) (by assumption) ?_; rotate_left; (focus (intro w hSw; (try dsimp only at hSw); go_simp; (try with_reducible rfl); done)); (try simp only [Act.put, List.getElem_toArray, List.getElem_cons_succ, List.getElem_cons_zero, List.setIfInBounds_toArray, List.set_cons_zero, List.set_cons_succ])
      clear hHeld0
      refine readyS (rs := [7]) (by kernel_rfl) (by simp) ?_
      refine ReadyS.consH rfl (fun K hK => ?_) ReadyS.nil
      (try simp only [List.getElem_toArray, List.getElem_cons_succ, List.getElem_cons_zero])
      go_simp
      (with_reducible refine (insert_no (HNb.out _ HD0.out) p).mono ?_); rintro e W1 ⟨rfl, hb⟩
      have HD1 := Lib.hid (below_up HD0.out hb); clear hb
      refine hK.out _ _ (HSt.out _ HD1.out) (fun hHeld0 => ?_)
      clear hK K
      (try simp only [Act.put, List.getElem_toArray, List.getElem_cons_succ, List.getElem_cons_zero, List.setIfInBounds_toArray, List.set_cons_zero, List.set_cons_succ])
      refine takeF (i := 8) (v := ?_) rfl (by kernel_rfl) (fun _ _ _ h => h) (Or.inl ⟨by kernel_rfl, ?_⟩) (by assumption) ?_; rotate_left; (focus (intro w _; go_simp; (try with_reducible rfl); done)); (try simp only [Act.put, List.getElem_toArray, List.getElem_cons_succ, List.getElem_cons_zero, List.setIfInBounds_toArray, List.set_cons_zero, List.set_cons_succ])
      refine takeF (i := 9) (v := ?_) rfl (by kernel_rfl) (fun _ _ _ h => h) (Or.inl ⟨by kernel_rfl, ?_⟩) (by assumption) ?_; rotate_left; (focus (intro w _; go_simp; (try with_reducible rfl); done)); (try simp only [Act.put, List.getElem_toArray, List.getElem_cons_succ, List.getElem_cons_zero, List.setIfInBounds_toArray, List.set_cons_zero, List.set_cons_succ])
      refine takeF (i := 10) (v := ?_) rfl (by kernel_rfl) (fun _ _ _ h => h) (Or.inl ⟨by kernel_rfl, ?_⟩) (by assumption) ?_; rotate_left; (focus (intro w _; go_simp; (try with_reducible rfl); done)); (try simp only [Act.put, List.getElem_toArray, List.getElem_cons_succ, List.getElem_cons_zero, List.setIfInBounds_toArray, List.set_cons_zero, List.set_cons_succ])
      refine takeF (i := 11) (v := ?_) rfl (by kernel_rfl) (fun _ _ _ h => h) (Or.inl ⟨by kernel_rfl, ?_⟩) (by assumption) ?_; rotate_left; (focus (intro w _; go_simp; (try with_reducible rfl); done)); (try simp only [Act.put, List.getElem_toArray, List.getElem_cons_succ, List.getElem_cons_zero, List.setIfInBounds_toArray, List.set_cons_zero, List.set_cons_succ])
      refine takeF (i := 12) (v := ?_) rfl (by kernel_rfl) (fun _ _ _ h => h) (Or.inl ⟨by kernel_rfl, ?_⟩) (by assumption) ?_; rotate_left; (focus (intro w _; go_simp; (try with_reducible rfl); done)); (try simp only [Act.put, List.getElem_toArray, List.getElem_cons_succ, List.getElem_cons_zero, List.setIfInBounds_toArray, List.set_cons_zero, List.set_cons_succ])
      refine takeF (i := 13) (v := ?_) rfl (by kernel_rfl) (fun _ _ _ h => h) (Or.inl ⟨by kernel_rfl, ?_⟩) (by assumption) ?_; rotate_left; (focus (intro w _; go_simp; (try with_reducible rfl); done)); (try simp only [Act.put, List.getElem_toArray, List.getElem_cons_succ, List.getElem_cons_zero, List.setIfInBounds_toArray, List.set_cons_zero, List.set_cons_succ])
      refine takeH (i := 14) (v := ?_) rfl (by kernel_rfl) (fun _ _ _ h => h) (Or.inl ⟨by kernel_rfl, ?_⟩) (by assumption) ?_; rotate_left; (focus (intro w hSw; (try dsimp only at hSw); go_simp; (try with_reducible rfl); done)); (try simp only [Act.put, List.getElem_toArray, List.getElem_cons_succ, List.getElem_cons_zero, List.setIfInBounds_toArray, List.set_cons_zero, List.set_cons_succ])
      refine takeF (i := 15) (v := ?_) rfl (by kernel_rfl) (fun _ _ _ h => h) (Or.inl ⟨by kernel_rfl, ?_⟩) (by assumption) ?_; rotate_left; (focus (intro w _; go_simp; (try with_reducible rfl); done)); (try simp only [Act.put, List.getElem_toArray, List.getElem_cons_succ, List.getElem_cons_zero, List.setIfInBounds_toArray, List.set_cons_zero, List.set_cons_succ])
      refine takeH (i := 16) (v := ?_) rfl (by kernel_rfl) (fun _ _ _ h => h) (Or.inl ⟨by kernel_rfl, ?_⟩) (by assumption) ?_; rotate_left; (focus (intro w hSw; (try dsimp only at hSw); go_simp; (try with_reducible rfl); done)); (try simp only [Act.put, List.getElem_toArray, List.getElem_cons_succ, List.getElem_cons_zero, List.setIfInBounds_toArray, List.set_cons_zero, List.set_cons_succ])
      clear hHeld0
      refine readyS (rs := [17]) (by kernel_rfl) (by simp) ?_
      refine ReadyS.consH rfl (fun K hK => ?_) ReadyS.nil
      (try simp only [List.getElem_toArray, List.getElem_cons_succ, List.getElem_cons_zero])
      go_simp
      (with_reducible refine (delete_no (HNb.out _ HD1.out) p.id).mono ?_); rintro e W2 ⟨rfl, rfl⟩
      refine hK.out _ _ (HSt.out _ HD1.out) (fun hHeld0 => ?_)
      clear hK K
      (try simp only [Act.put, List.getElem_toArray, List.getElem_cons_succ, List.getElem_cons_zero, List.setIfInBounds_toArray, List.set_cons_zero, List.set_cons_succ])
      refine takeF (i := 18) (v := ?_) rfl (by kernel_rfl) (fun _ _ _ h => h) (Or.inl ⟨by kernel_rfl, ?_⟩) (by assumption) ?_; rotate_left; (focus (intro w _; go_simp; (try with_reducible rfl); done)); (try simp only [Act.put, List.getElem_toArray, List.getElem_cons_succ, List.getElem_cons_zero, List.setIfInBounds_toArray, List.set_cons_zero, List.set_cons_succ])
      refine takeF (i := 19) (v := ?_) rfl (by kernel_rfl) (fun _ _ _ h => h) (Or.inl ⟨by kernel_rfl, ?_⟩) (by assumption) ?_; rotate_left; (focus (intro w _; go_simp; (try with_reducible rfl); done)); (try simp only [Act.put, List.getElem_toArray, List.getElem_cons_succ, List.getElem_cons_zero, List.setIfInBounds_toArray, List.set_cons_zero, List.set_cons_succ])
      refine takeF (i := 20) (v := ?_) rfl (by kernel_rfl) (fun _ _ _ h => h) (Or.inl ⟨by kernel_rfl, ?_⟩) (by assumption) ?_; rotate_left; (focus (intro w _; go_simp; (try with_reducible rfl); done)); (try simp only [Act.put, List.getElem_toArray, List.getElem_cons_succ, List.getElem_cons_zero, List.setIfInBounds_toArray, List.set_cons_zero, List.set_cons_succ])
      refine takeF (i := 21) (v := ?_) rfl (by kernel_rfl) (fun _ _ _ h => h) (Or.inl ⟨by kernel_rfl, ?_⟩) (by assumption) ?_; rotate_left; (focus (intro w _; go_simp; (try with_reducible rfl); done)); (try simp only [Act.put, List.getElem_toArray, List.getElem_cons_succ, List.getElem_cons_zero, List.setIfInBounds_toArray, List.set_cons_zero, List.set_cons_succ])
      refine takeF (i := 22) (v := ?_) rfl (by kernel_rfl) (fun _ _ _ h => h) (Or.inl ⟨by kernel_rfl, ?_⟩) (by assumption) ?_; rotate_left; (focus (intro w _; go_simp; (try with_reducible rfl); done)); (try simp only [Act.put, List.getElem_toArray, List.getElem_cons_succ, List.getElem_cons_zero, List.setIfInBounds_toArray, List.set_cons_zero, List.set_cons_succ])
      refine takeF (i := 23) (v := ?_) rfl (by kernel_rfl) (fun _ _ _ h => h) (Or.inl ⟨by kernel_rfl, ?_⟩) (by assumption) ?_; rotate_left; (focus (intro w _; go_simp; (try with_reducible rfl); done)); (try simp only [Act.put, List.getElem_toArray, List.getElem_cons_succ, List.getElem_cons_zero, List.setIfInBounds_toArray, List.set_cons_zero, List.set_cons_succ])
      refine takeH (i := 24) (v := ?_) rfl (by kernel_rfl) (fun _ _ _ h => h) (Or.inl ⟨by kernel_rfl, ?_⟩) (by assumption) ?_; rotate_left; (focus (intro w hSw; (try dsimp only at hSw); go_simp; (try with_reducible rfl); done)); (try simp only [Act.put, List.getElem_toArray, List.getElem_cons_succ, List.getElem_cons_zero, List.setIfInBounds_toArray, List.set_cons_zero, List.set_cons_succ])
      refine takeF (i := 25) (v := ?_) rfl (by kernel_rfl) (fun _ _ _ h => h) (Or.inl ⟨by kernel_rfl, ?_⟩) (by assumption) ?_; rotate_left; (focus (intro w _; go_simp; (try with_reducible rfl); done)); (try simp only [Act.put, List.getElem_toArray, List.getElem_cons_succ, List.getElem_cons_zero, List.setIfInBounds_toArray, List.set_cons_zero, List.set_cons_succ])
      refine takeH (i := 26) (v := ?_) rfl (by kernel_rfl) (fun _ _ _ h => h) (Or.inl ⟨by kernel_rfl, ?_⟩) (by assumption) ?_; rotate_left; (focus (intro w hSw; (try dsimp only at hSw); go_simp; (try with_reducible rfl); done)); (try simp only [Act.put, List.getElem_toArray, List.getElem_cons_succ, List.getElem_cons_zero, List.setIfInBounds_toArray, List.set_cons_zero, List.set_cons_succ])
      clear hHeld0
      refine readyS (rs := [27]) (by kernel_rfl) (by simp) ?_
      refine ReadyS.consH rfl (fun K hK => ?_) ReadyS.nil
      (try simp only [List.getElem_toArray, List.getElem_cons_succ, List.getElem_cons_zero])
      go_simp
      (with_reducible refine (move_no (HNb.out _ HD1.out) p.id 1 2).mono ?_); rintro e W2 ⟨rfl, rfl⟩
      refine hK.out _ _ (HSt.out _ HD1.out) (fun hHeld0 => ?_)
      clear hK K
      (try simp only [Act.put, List.getElem_toArray, List.getElem_cons_succ, List.getElem_cons_zero, List.setIfInBounds_toArray, List.set_cons_zero, List.set_cons_succ])
      refine takeF (i := 28) (v := ?_) rfl (by kernel_rfl) (fun _ _ _ h => h) (Or.inl ⟨by kernel_rfl, ?_⟩) (by assumption) ?_; rotate_left; (focus (intro w _; go_simp; (try with_reducible rfl); done)); (try simp only [Act.put, List.getElem_toArray, List.getElem_cons_succ, List.getElem_cons_zero, List.setIfInBounds_toArray, List.set_cons_zero, List.set_cons_succ])
      refine takeF (i := 29) (v := ?_) rfl (by kernel_rfl) (fun _ _ _ h => h) (Or.inl ⟨by kernel_rfl, ?_⟩) (by assumption) ?_; rotate_left; (focus (intro w _; go_simp; (try with_reducible rfl); done)); (try simp only [Act.put, List.getElem_toArray, List.getElem_cons_succ, List.getElem_cons_zero, List.setIfInBounds_toArray, List.set_cons_zero, List.set_cons_succ])
      refine takeF (i := 30) (v := ?_) rfl (by kernel_rfl) (fun _ _ _ h => h) (Or.inl ⟨by kernel_rfl, ?_⟩) (by assumption) ?_; rotate_left; (focus (intro w _; go_simp; (try with_reducible rfl); done)); (try simp only [Act.put, List.getElem_toArray, List.getElem_cons_succ, List.getElem_cons_zero, List.setIfInBounds_toArray, List.set_cons_zero, List.set_cons_succ])
      refine takeF (i := 31) (v := ?_) rfl (by kernel_rfl) (fun _ _ _ h => h) (Or.inl ⟨by kernel_rfl, ?_⟩) (by assumption) ?_; rotate_left; (focus (intro w _; go_simp; (try with_reducible rfl); done)); (try simp only [Act.put, List.getElem_toArray, List.getElem_cons_succ, List.getElem_cons_zero, List.setIfInBounds_toArray, List.set_cons_zero, List.set_cons_succ])
      refine takeF (i := 32) (v := ?_) rfl (by kernel_rfl) (fun _ _ _ h => h) (Or.inl ⟨by kernel_rfl, ?_⟩) (by assumption) ?_; rotate_left; (focus (intro w _; go_simp; (try with_reducible rfl); done)); (try simp only [Act.put, List.getElem_toArray, List.getElem_cons_succ, List.getElem_cons_zero, List.setIfInBounds_toArray, List.set_cons_zero, List.set_cons_succ])
      refine takeF (i := 33) (v := ?_) rfl (by kernel_rfl) (fun _ _ _ h => h) (Or.inl ⟨by kernel_rfl, ?_⟩) (by assumption) ?_; rotate_left; (focus (intro w _; go_simp; (try with_reducible rfl); done)); (try simp only [Act.put, List.getElem_toArray, List.getElem_cons_succ, List.getElem_cons_zero, List.setIfInBounds_toArray, List.set_cons_zero, List.set_cons_succ])
      refine takeH (i := 34) (v := ?_) rfl (by kernel_rfl) (fun _ _ _ h => h) (Or.inl ⟨by kernel_rfl, ?_⟩) (by assumption) ?_; rotate_left; (focus (intro w hSw; (try dsimp only at hSw); go_simp; (try with_reducible rfl); done)); (try simp only [Act.put, List.getElem_toArray, List.getElem_cons_succ, List.getElem_cons_zero, List.setIfInBounds_toArray, List.set_cons_zero, List.set_cons_succ])
      refine takeH (i := 35) (v := ?_) rfl (by kernel_rfl) (fun _ _ _ h => h) (Or.inl ⟨by kernel_rfl, ?_⟩) (by assumption) ?_; rotate_left; (focus (intro w hSw; (try dsimp only at hSw); go_simp; (try with_reducible rfl); done)); (try simp only [Act.put, List.getElem_toArray, List.getElem_cons_succ, List.getElem_cons_zero, List.setIfInBounds_toArray, List.set_cons_zero, List.set_cons_succ])
      refine takeF (i := 38) (v := ?_) rfl (by kernel_rfl) (fun _ _ _ h => h) (Or.inl ⟨by kernel_rfl, ?_⟩) (by assumption) ?_; rotate_left; (focus (intro w _; go_simp; (try with_reducible rfl); done)); (try simp only [Act.put, List.getElem_toArray, List.getElem_cons_succ, List.getElem_cons_zero, List.setIfInBounds_toArray, List.set_cons_zero, List.set_cons_succ])
      refine takeF (i := 39) (v := ?_) rfl (by kernel_rfl) (fun _ _ _ h => h) (Or.inl ⟨by kernel_rfl, ?_⟩) (by assumption) ?_; rotate_left; (focus (intro w _; go_simp; (try with_reducible rfl); done)); (try simp only [Act.put, List.getElem_toArray, List.getElem_cons_succ, List.getElem_cons_zero, List.setIfInBounds_toArray, List.set_cons_zero, List.set_cons_succ])
      refine takeF (i := 40) (v := ?_) rfl (by kernel_rfl) (fun _ _ _ h => h) (Or.inl ⟨by kernel_rfl, ?_⟩) (by assumption) ?_; rotate_left; (focus (intro w _; go_simp; (try with_reducible rfl); done)); (try simp only [Act.put, List.getElem_toArray, List.getElem_cons_succ, List.getElem_cons_zero, List.setIfInBounds_toArray, List.set_cons_zero, List.set_cons_succ])
      refine takeH (i := 41) (v := ?_) rfl (by kernel_rfl) (fun _ _ _ h => h) (Or.inl ⟨by kernel_rfl, ?_⟩) (by assumption) ?_; rotate_left; (focus (intro w hSw; (try dsimp only at hSw); go_simp; (try with_reducible rfl); done)); (try simp only [Act.put, List.getElem_toArray, List.getElem_cons_succ, List.getElem_cons_zero, List.setIfInBounds_toArray, List.set_cons_zero, List.set_cons_succ])
      refine takeF (i := 45) (v := ?_) rfl (by kernel_rfl) (fun _ _ _ h => h) (Or.inl ⟨by kernel_rfl, ?_⟩) (by assumption) ?_; rotate_left; (focus (intro w _; go_simp; (try with_reducible rfl); done)); (try simp only [Act.put, List.getElem_toArray, List.getElem_cons_succ, List.getElem_cons_zero, List.setIfInBounds_toArray, List.set_cons_zero, List.set_cons_succ])
      refine takeF (i := 46) (v := ?_) rfl (by kernel_rfl) (fun _ _ _ h => h) (Or.inl ⟨by kernel_rfl, ?_⟩) (by assumption) ?_; rotate_left; (focus (intro w _; go_simp; (try with_reducible rfl); done)); (try simp only [Act.put, List.getElem_toArray, List.getElem_cons_succ, List.getElem_cons_zero, List.setIfInBounds_toArray, List.set_cons_zero, List.set_cons_succ])
      refine takeF (i := 47) (v := ?_) rfl (by kernel_rfl) (fun _ _ _ h => h) (Or.inl ⟨by kernel_rfl, ?_⟩) (by assumption) ?_; rotate_left; (focus (intro w _; go_simp; (try with_reducible rfl); done)); (try simp only [Act.put, List.getElem_toArray, List.getElem_cons_succ, List.getElem_cons_zero, List.setIfInBounds_toArray, List.set_cons_zero, List.set_cons_succ])
      refine takeH (i := 48) (v := ?_) rfl (by kernel_rfl) (fun _ _ _ h => h) (Or.inl ⟨by kernel_rfl, ?_⟩) (by assumption) ?_; rotate_left; (focus (intro w hSw; (try dsimp only at hSw); go_simp; (try with_reducible rfl); done)); (try simp only [Act.put, List.getElem_toArray, List.getElem_cons_succ, List.getElem_cons_zero, List.setIfInBounds_toArray, List.set_cons_zero, List.set_cons_succ])
      clear hHeld0
      refine readyS (rs := [36]) (by kernel_rfl) (by simp) ?_
      refine ReadyS.consH rfl (fun K hK => ?_) ReadyS.nil
      (try simp only [List.getElem_toArray, List.getElem_cons_succ, List.getElem_cons_zero])
      go_simp
      (with_reducible refine (range_no (HNb.out _ HD1.out) r).mono ?_); rintro e W3 ⟨rfl, hb⟩
      have HD3 := Lib.hid (below_up HD1.out hb); clear hb
      refine hK.out _ _ (HSt.out _ HD3.out) (fun hHeld0 => ?_)
      clear hK K
      (try simp only [Act.put, List.getElem_toArray, List.getElem_cons_succ, List.getElem_cons_zero, List.setIfInBounds_toArray, List.set_cons_zero, List.set_cons_succ])
      refine takeF (i := 37) (v := ?_) rfl (by kernel_rfl) (fun _ _ _ h => h) (Or.inl ⟨by kernel_rfl, ?_⟩) (by assumption) ?_; rotate_left; (focus (intro w _; go_simp; (try with_reducible rfl); done)); (try simp only [Act.put, List.getElem_toArray, List.getElem_cons_succ, List.getElem_cons_zero, List.setIfInBounds_toArray, List.set_cons_zero, List.set_cons_succ])
      clear hHeld0
      refine readyS (rs := [42]) (by kernel_rfl) (by simp) ?_
      refine ReadyS.consH rfl (fun K hK => ?_) ReadyS.nil
      (try simp only [List.getElem_toArray, List.getElem_cons_succ, List.getElem_cons_zero])
      go_simp
      have HNr := near_no (HNb.out _ HD3.out) 1 2 3 (by decide)
      (refine HNr.mono ?_); rintro e W4 ⟨⟨cq, rfl⟩, hb⟩
      have HD4 := Lib.hid (below_up HD3.out hb); clear hb HNr
      refine hK.out _ _ (HSt.out _ HD4.out) (fun hHeld0 => ?_)
      clear hK K
      (try simp only [Act.put, List.getElem_toArray, List.getElem_cons_succ, List.getElem_cons_zero, List.setIfInBounds_toArray, List.set_cons_zero, List.set_cons_succ])
      refine takeF (i := 43) (v := ?_) rfl (by kernel_rfl) (fun _ _ _ h => h) (Or.inl ⟨by kernel_rfl, ?_⟩) (by assumption) ?_; rotate_left; (focus (intro w _; go_simp; (try with_reducible rfl); done)); (try simp only [Act.put, List.getElem_toArray, List.getElem_cons_succ, List.getElem_cons_zero, List.setIfInBounds_toArray, List.set_cons_zero, List.set_cons_succ])
      refine takeF (i := 44) (v := ?_) rfl (by kernel_rfl) (fun _ _ _ h => h) (Or.inl ⟨by kernel_rfl, ?_⟩) (by assumption) ?_; rotate_left; (focus (intro w _; go_simp; (try with_reducible rfl); done)); (try simp only [Act.put, List.getElem_toArray, List.getElem_cons_succ, List.getElem_cons_zero, List.setIfInBounds_toArray, List.set_cons_zero, List.set_cons_succ])
      clear hHeld0
      refine readyS (rs := [49]) (by kernel_rfl) (by simp) ?_
      refine ReadyS.consH rfl (fun K hK => ?_) ReadyS.nil
      (try simp only [List.getElem_toArray, List.getElem_cons_succ, List.getElem_cons_zero])
      go_simp
      (with_reducible refine (points_no (HNb.out _ HD4.out)).mono ?_); rintro e W5 ⟨rfl, rfl⟩
      refine hK.out _ _ (HSt.out _ HD4.out) (fun hHeld0 => ?_)
      clear hK K
      (try simp only [Act.put, List.getElem_toArray, List.getElem_cons_succ, List.getElem_cons_zero, List.setIfInBounds_toArray, List.set_cons_zero, List.set_cons_succ])
      refine takeF (i := 50) (v := ?_) rfl (by kernel_rfl) (fun _ _ _ h => h) (Or.inl ⟨by kernel_rfl, ?_⟩) (by assumption) ?_; rotate_left; (focus (intro w _; go_simp; (try with_reducible rfl); done)); (try simp only [Act.put, List.getElem_toArray, List.getElem_cons_succ, List.getElem_cons_zero, List.setIfInBounds_toArray, List.set_cons_zero, List.set_cons_succ])
      refine takeF (i := 51) (v := ?_) rfl (by kernel_rfl) (fun _ _ _ h => h) (Or.inl ⟨by kernel_rfl, ?_⟩) (by assumption) ?_; rotate_left; (focus (intro w _; go_simp; (try with_reducible rfl); done)); (try simp only [Act.put, List.getElem_toArray, List.getElem_cons_succ, List.getElem_cons_zero, List.setIfInBounds_toArray, List.set_cons_zero, List.set_cons_succ])
      refine takeF (i := 52) (v := ?_) rfl (by kernel_rfl) (fun _ _ _ h => h) (Or.inl ⟨by kernel_rfl, ?_⟩) (by assumption) ?_; rotate_left; (focus (intro w _; go_simp; (try with_reducible rfl); done)); (try simp only [Act.put, List.getElem_toArray, List.getElem_cons_succ, List.getElem_cons_zero, List.setIfInBounds_toArray, List.set_cons_zero, List.set_cons_succ])
      refine takeF (i := 53) (v := ?_) rfl (by kernel_rfl) (fun _ _ _ h => h) (Or.inl ⟨by kernel_rfl, ?_⟩) (by assumption) ?_; rotate_left; (focus (intro w _; go_simp; (try with_reducible rfl); done)); (try simp only [Act.put, List.getElem_toArray, List.getElem_cons_succ, List.getElem_cons_zero, List.setIfInBounds_toArray, List.set_cons_zero, List.set_cons_succ])
      clear hHeld0
      refine doneS (by kernel_rfl) ?_ _
      go_wp2
      go_meet
      case rel => exact ⟨rfl, HD4.out⟩
    case rest =>
    obtain ⟨rfl, hbc⟩ := hcut
    have HBn := Lib.hid (below_up HB.out hbc)
    clear hbc HBc
    go_wp2
    exact ⟨⟨k + 1, by go_num, by omega, HBn.out⟩, by simp [intOf]; omega⟩
  · obtain rfl : k = 2 := by omega
    have d : decide (2 < 2) = false := rfl
    have di : decide ((2 : Int) < 2) = false := rfl
    have HWr0 := Lib.hid (below_up HW0.out HB.out)
    have HQ0 : Hid (∀ W', Below w3.heap.size w3 W' → (W'.cell? ⟨w.heap.size, 0, none⟩ = some (.int .i64 p.id) ∧ W'.cell? ⟨w.heap.size, 1, none⟩ = some (.int .u32 (p.x : Nat)) ∧ W'.cell? ⟨w.heap.size, 2, none⟩ = some (.int .u32 (p.y : Nat)) ∧ W'.cell? ⟨w.heap.size, 3, none⟩ = some (.string p.d))) := Lib.hid (fun W' hb => by
      obtain ⟨q, _, hst⟩ := HK.out 0 (by omega)
      exact ((hst.below HB.out).below hb).2.1)
    rw [show ((2 : Nat) : Int) = 2 from rfl]
    go_upto_region 9 with (fail)
    have HD0 := Lib.hid (below_drew1 (w := w3))
    refine beginS (S := fun W => W.cell? ⟨w.heap.size, 0, none⟩ = some (.int .i64 p.id) ∧ W.cell? ⟨w.heap.size, 1, none⟩ = some (.int .u32 (p.x : Nat)) ∧ W.cell? ⟨w.heap.size, 2, none⟩ = some (.int .u32 (p.y : Nat)) ∧ W.cell? ⟨w.heap.size, 3, none⟩ = some (.string p.d)) [] (by kernel_rfl) (HQ0.out _ HD0.out) (fun hHeld0 => ?_)
    generalize (World.drew w3) = W4 at *
    refine takeF (i := 0) (v := ?_) rfl (by kernel_rfl) (fun _ _ _ h => h) (Or.inl ⟨by kernel_rfl, ?_⟩) (by assumption) ?_; rotate_left; (focus (intro w _; go_simp; (try with_reducible rfl); done)); (try simp only [Act.put, List.getElem_toArray, List.getElem_cons_succ, List.getElem_cons_zero, List.setIfInBounds_toArray, List.set_cons_zero, List.set_cons_succ])
    refine takeF (i := 1) (v := ?_) rfl (by kernel_rfl) (fun _ _ _ h => h) (Or.inl ⟨by kernel_rfl, ?_⟩) (by assumption) ?_; rotate_left; (focus (intro w _; go_simp; (try with_reducible rfl); done)); (try simp only [Act.put, List.getElem_toArray, List.getElem_cons_succ, List.getElem_cons_zero, List.setIfInBounds_toArray, List.set_cons_zero, List.set_cons_succ])
    clear hHeld0
    refine readyS (rs := [2]) (by kernel_rfl) (by simp) ?_
    refine ReadyS.consH rfl (fun K hK => ?_) ReadyS.nil
    (try simp only [List.getElem_toArray, List.getElem_cons_succ, List.getElem_cons_zero])
    go_simp
    have HSm := same_ok (.slice A l.length cap) (.slice A l.length cap) l l W4 (HV.out.below (below_up HWr0.out HD0.out)) (HV.out.below (below_up HWr0.out HD0.out)) (by omega) (by omega)
    rw [eqL_t rfl] at HSm
    (with_reducible refine HSm.mono ?_); rintro e Wc ⟨rfl, hb⟩
    have Hb := Lib.hid (below_up HD0.out hb)
    have HQ := HQ0
    have HRt : Hid (∀ W', Below w3.heap.size w3 W' → Rd W' A (l.flatMap PtS.cells)) := Lib.hid (fun W' hb => by
      obtain ⟨A', c', e, _, hr⟩ := HV.out.below (below_up HWr0.out hb)
      injection e with e1 _ _
      rw [e1]; exact hr)
    clear HSm hb
    refine hK.out _ _ (HQ.out _ Hb.out) (fun hHeld0 => ?_)
    clear hK K
    (try simp only [Act.put, List.getElem_toArray, List.getElem_cons_succ, List.getElem_cons_zero, List.setIfInBounds_toArray, List.set_cons_zero, List.set_cons_succ])
    refine takeF (i := 3) (v := ?_) rfl (by kernel_rfl) (fun _ _ _ h => h) (Or.inl ⟨by kernel_rfl, ?_⟩) (by assumption) ?_; rotate_left; (focus (intro w _; go_simp; (try with_reducible rfl); done)); (try simp only [Act.put, List.getElem_toArray, List.getElem_cons_succ, List.getElem_cons_zero, List.setIfInBounds_toArray, List.set_cons_zero, List.set_cons_succ])
    refine takeF (i := 4) (v := ?_) rfl (by kernel_rfl) (fun _ _ _ h => h) (Or.inl ⟨by kernel_rfl, ?_⟩) (by assumption) ?_; rotate_left; (focus (intro w _; go_simp; (try with_reducible rfl); done)); (try simp only [Act.put, List.getElem_toArray, List.getElem_cons_succ, List.getElem_cons_zero, List.setIfInBounds_toArray, List.set_cons_zero, List.set_cons_succ])
    refine takeF (i := 6) (v := ?_) rfl (by kernel_rfl) (fun _ _ _ h => h) (Or.inl ⟨by kernel_rfl, ?_⟩) (by assumption) ?_; rotate_left; (focus (intro w _; go_simp; (try with_reducible rfl); done)); (try simp only [Act.put, List.getElem_toArray, List.getElem_cons_succ, List.getElem_cons_zero, List.setIfInBounds_toArray, List.set_cons_zero, List.set_cons_succ])
    refine takeH (i := 8) (v := ?_) rfl (by kernel_rfl) (fun _ _ _ h => h) (Or.inl ⟨by kernel_rfl, ?_⟩) (by assumption) ?_; rotate_left; (focus (intro w hSw; (try dsimp only at hSw); go_simp; (try with_reducible rfl); done)); (try simp only [Act.put, List.getElem_toArray, List.getElem_cons_succ, List.getElem_cons_zero, List.setIfInBounds_toArray, List.set_cons_zero, List.set_cons_succ])
    refine readyS (rs := [5, 9]) (by kernel_rfl) (by simp) ?_
    refine ReadyS.consH rfl (fun K hK => ?_) (ReadyS.consH rfl (fun K hK => ?_) ReadyS.nil)
    (try simp only [List.getElem_toArray, List.getElem_cons_succ, List.getElem_cons_zero])
    · go_simp
      have H0' := Lib.hid (own_lower (own_zero Wc 56 4) Hb.out.size)
      have Hb' := Lib.hid (below_alloc Hb.out (.cells #[] 56))
      clear hHeld0
      refine hK.out _ _ (HQ.out _ Hb'.out) (fun hHeld0 => ?_)
      clear hK K
      clear Hb
      have H0 := H0'; have Hb := Hb'; clear H0' Hb'
      generalize (World.alloc Wc _) = Wd at *
      obtain ⟨Wc, rfl⟩ : ∃ W, W = Wd := ⟨_, rfl⟩
      (try simp only [Act.put, List.getElem_toArray, List.getElem_cons_succ, List.getElem_cons_zero, List.setIfInBounds_toArray, List.set_cons_zero, List.set_cons_succ])
      refine readyS (rs := [7, 9]) (by kernel_rfl) (by simp) ?_
      refine ReadyS.consH rfl (fun K hK => ?_) (ReadyS.consH rfl (fun K hK => ?_) ReadyS.nil)
      (try simp only [List.getElem_toArray, List.getElem_cons_succ, List.getElem_cons_zero])
      · rw [if_pos (by kernel_rfl)]
        refine wp_app _ _ 49 (by rfl) w3.heap.size 56 (.agg #[.int .i64 0, .int .u32 0, .int .u32 0, .string ⟨#[]⟩]) 4 32 Try.underlying49 info_pt4 rfl (by decide) (by decide) _ 0 [] (by rfl) A l.length cap (l.flatMap PtS.cells) (by rfl) H0.out (by rw [flat_len PtS.cells_len]) (HRt.out _ Hb.out) (flat_one PtS.cells_one _) (by omega) Hb.out.size ?_
        intro A4 c4 Wd hown hgrow hat
        rw [Nat.zero_add] at hown hat ⊢
        rw [List.nil_append] at hown
        have Hb' := Lib.hid (below_grown Hb.out hgrow (fun k e => own_base H0.out k e))
        have H4 := Lib.hid hown
        clear hown hgrow hat
        clear hHeld0
        refine hK.out _ _ (HQ.out _ Hb'.out) (fun hHeld0 => ?_)
        clear hK K
        clear Hb H0
        have Hb := Hb'; clear Hb'
        obtain ⟨Wc, rfl⟩ : ∃ W, W = Wd := ⟨_, rfl⟩
        (try simp only [Act.put, List.getElem_toArray, List.getElem_cons_succ, List.getElem_cons_zero, List.setIfInBounds_toArray, List.set_cons_zero, List.set_cons_succ])
        refine readyS (rs := [9]) (by kernel_rfl) (by simp) ?_
        refine ReadyS.consH rfl (fun K hK => ?_) ReadyS.nil
        (try simp only [List.getElem_toArray, List.getElem_cons_succ, List.getElem_cons_zero])
        go_simp
        have H9' := Lib.hid (rd_new Wc #[.int .i64 p.id, .int .u32 (p.x : Nat), .int .u32 (p.y : Nat), .string p.d] 56 ([p].flatMap PtS.cells) rfl)
        have Hb' := Lib.hid (below_alloc Hb.out (.cells #[.int .i64 p.id, .int .u32 (p.x : Nat), .int .u32 (p.y : Nat), .string p.d] 56))
        have H4' := Lib.hid (own_below H4.out (below_alloc1 Wc (.cells #[.int .i64 p.id, .int .u32 (p.x : Nat), .int .u32 (p.y : Nat), .string p.d] 56)))
        clear hHeld0
        refine hK.out _ _ (HQ.out _ Hb'.out) (fun hHeld0 => ?_)
        clear hK K
        clear Hb H4
        have H9 := H9'; have Hb := Hb'; clear H9' Hb'
        have H4 := H4'; clear H4'
        generalize (World.alloc Wc _) = Wd at *
        obtain ⟨Wc, rfl⟩ : ∃ W, W = Wd := ⟨_, rfl⟩
        (try simp only [Act.put, List.getElem_toArray, List.getElem_cons_succ, List.getElem_cons_zero, List.setIfInBounds_toArray, List.set_cons_zero, List.set_cons_succ])
        refine readyS (rs := [10]) (by kernel_rfl) (by simp) ?_
        refine ReadyS.consH rfl (fun K hK => ?_) ReadyS.nil
        (try simp only [List.getElem_toArray, List.getElem_cons_succ, List.getElem_cons_zero])
        rw [if_pos (by kernel_rfl)]
        refine wp_app _ _ 49 (by rfl) w3.heap.size 56 (.agg #[.int .i64 0, .int .u32 0, .int .u32 0, .string ⟨#[]⟩]) 4 32 Try.underlying49 info_pt4 rfl (by decide) (by decide) (.slice A4 l.length c4) l.length (l.flatMap PtS.cells) (by rfl) _ 1 1 ([p].flatMap PtS.cells) (by rfl) H4.out rfl H9.out (flat_one PtS.cells_one _) (by omega) Hb.out.size ?_
        intro A10 c10 Wd hown hgrow hat
        have Hb' := Lib.hid (below_grown Hb.out hgrow (fun k e => own_base H4.out k e))
        rw [← List.flatMap_append] at hown
        have H10 := Lib.hid hown
        clear hown hgrow hat
        clear hHeld0
        refine hK.out _ _ (HQ.out _ Hb'.out) (fun hHeld0 => ?_)
        clear hK K
        clear Hb H4 H9
        have Hb := Hb'; clear Hb'
        obtain ⟨Wc, rfl⟩ : ∃ W, W = Wd := ⟨_, rfl⟩
        (try simp only [Act.put, List.getElem_toArray, List.getElem_cons_succ, List.getElem_cons_zero, List.setIfInBounds_toArray, List.set_cons_zero, List.set_cons_succ])
        clear hHeld0
        refine readyS (rs := [11]) (by kernel_rfl) (by simp) ?_
        refine ReadyS.consH rfl (fun K hK => ?_) ReadyS.nil
        (try simp only [List.getElem_toArray, List.getElem_cons_succ, List.getElem_cons_zero])
        go_simp
        have HSm := same_ok (.slice A l.length cap) (.slice A10 (l.length + 1) c10) l (l ++ [p]) Wc (HV.out.below (below_up HWr0.out Hb.out)) (by
          have h0 : Wc.ownsRow w3.heap.size 56 4 (.slice A10 (l.length + 1) c10) (l.length + 1) ((l ++ [p]).flatMap PtS.cells) := H10.out
          exact srd_own PtS.cells_len (by decide) h0) (by omega) (by rw [List.length_append, List.length_singleton]; omega)
        rw [eqL_f (fun e => by have := congrArg List.length e; rw [List.length_append, List.length_singleton] at this; omega)] at HSm
        (with_reducible refine HSm.mono ?_); rintro e W11 ⟨rfl, hb⟩
        have Hb11 := Lib.hid (below_up Hb.out hb)
        clear HSm hb
        refine hK.out _ _ (HQ.out _ Hb11.out) (fun hHeld0 => ?_)
        clear hK K
        (try simp only [Act.put, List.getElem_toArray, List.getElem_cons_succ, List.getElem_cons_zero, List.setIfInBounds_toArray, List.set_cons_zero, List.set_cons_succ])
        refine takeF (i := 12) (v := ?_) rfl (by kernel_rfl) (fun _ _ _ h => h) (Or.inl ⟨by kernel_rfl, ?_⟩) (by assumption) ?_; rotate_left; (focus (intro w _; go_simp; (try with_reducible rfl); done)); (try simp only [Act.put, List.getElem_toArray, List.getElem_cons_succ, List.getElem_cons_zero, List.setIfInBounds_toArray, List.set_cons_zero, List.set_cons_succ])
        refine takeF (i := 13) (v := ?_) rfl (by kernel_rfl) (fun _ _ _ h => h) (Or.inl ⟨by kernel_rfl, ?_⟩) (by assumption) ?_; rotate_left; (focus (intro w _; go_simp; (try with_reducible rfl); done)); (try simp only [Act.put, List.getElem_toArray, List.getElem_cons_succ, List.getElem_cons_zero, List.setIfInBounds_toArray, List.set_cons_zero, List.set_cons_succ])
        refine takeF (i := 14) (v := ?_) rfl (by kernel_rfl) (fun _ _ _ h => h) (Or.inl ⟨by kernel_rfl, ?_⟩) (by assumption) ?_; rotate_left; (focus (intro w _; go_simp; (try with_reducible rfl); done)); (try simp only [Act.put, List.getElem_toArray, List.getElem_cons_succ, List.getElem_cons_zero, List.setIfInBounds_toArray, List.set_cons_zero, List.set_cons_succ])
        clear hHeld0
        refine readyS (rs := [15]) (by kernel_rfl) (by simp) ?_
        refine ReadyS.consH rfl (fun K hK => ?_) ReadyS.nil
        (try simp only [List.getElem_toArray, List.getElem_cons_succ, List.getElem_cons_zero])
        go_simp
        (with_reducible refine (HAl.out _).mono ?_); rintro e W15 ⟨rfl, hb⟩
        have Hb15 := Lib.hid (below_up Hb11.out hb)
        clear hb
        refine hK.out _ _ (HQ.out _ Hb15.out) (fun hHeld0 => ?_)
        clear hK K
        (try simp only [Act.put, List.getElem_toArray, List.getElem_cons_succ, List.getElem_cons_zero, List.setIfInBounds_toArray, List.set_cons_zero, List.set_cons_succ])
        refine takeF (i := 16) (v := ?_) rfl (by kernel_rfl) (fun _ _ _ h => h) (Or.inl ⟨by kernel_rfl, ?_⟩) (by assumption) ?_; rotate_left; (focus (intro w _; go_simp; (try with_reducible rfl); done)); (try simp only [Act.put, List.getElem_toArray, List.getElem_cons_succ, List.getElem_cons_zero, List.setIfInBounds_toArray, List.set_cons_zero, List.set_cons_succ])
        refine takeF (i := 17) (v := ?_) rfl (by kernel_rfl) (fun _ _ _ h => h) (Or.inl ⟨by kernel_rfl, ?_⟩) (by assumption) ?_; rotate_left; (focus (intro w _; go_simp; (try with_reducible rfl); done)); (try simp only [Act.put, List.getElem_toArray, List.getElem_cons_succ, List.getElem_cons_zero, List.setIfInBounds_toArray, List.set_cons_zero, List.set_cons_succ])
        clear hHeld0
        refine doneS (by kernel_rfl) ?_ _
        go_wp2
        go_ret
        exact ⟨rfl, below_up HWr0.out Hb15.out⟩
      · go_simp
        have H9' := Lib.hid (rd_new Wc #[.int .i64 p.id, .int .u32 (p.x : Nat), .int .u32 (p.y : Nat), .string p.d] 56 ([p].flatMap PtS.cells) rfl)
        have Hb' := Lib.hid (below_alloc Hb.out (.cells #[.int .i64 p.id, .int .u32 (p.x : Nat), .int .u32 (p.y : Nat), .string p.d] 56))
        have Hne := Lib.hid (own_lt H0.out _ rfl)
        have H0' := Lib.hid (own_below H0.out (below_alloc1 Wc (.cells #[.int .i64 p.id, .int .u32 (p.x : Nat), .int .u32 (p.y : Nat), .string p.d] 56)))
        clear hHeld0
        refine hK.out _ _ (HQ.out _ Hb'.out) (fun hHeld0 => ?_)
        clear hK K
        clear Hb H0
        have H9 := H9'; have Hb := Hb'; clear H9' Hb'
        have H0 := H0'; clear H0'
        generalize (World.alloc Wc _) = Wd at *
        obtain ⟨Wc, rfl⟩ : ∃ W, W = Wd := ⟨_, rfl⟩
        (try simp only [Act.put, List.getElem_toArray, List.getElem_cons_succ, List.getElem_cons_zero, List.setIfInBounds_toArray, List.set_cons_zero, List.set_cons_succ])
        refine readyS (rs := [7]) (by kernel_rfl) (by simp) ?_
        refine ReadyS.consH rfl (fun K hK => ?_) ReadyS.nil
        (try simp only [List.getElem_toArray, List.getElem_cons_succ, List.getElem_cons_zero])
        rw [if_pos (by kernel_rfl)]
        refine wp_app _ _ 49 (by rfl) w3.heap.size 56 (.agg #[.int .i64 0, .int .u32 0, .int .u32 0, .string ⟨#[]⟩]) 4 32 Try.underlying49 info_pt4 rfl (by decide) (by decide) _ 0 [] (by rfl) A l.length cap (l.flatMap PtS.cells) (by rfl) H0.out (by rw [flat_len PtS.cells_len]) (HRt.out _ Hb.out) (flat_one PtS.cells_one _) (by omega) Hb.out.size ?_
        intro A4 c4 Wd hown hgrow hat
        rw [Nat.zero_add] at hown hat ⊢
        rw [List.nil_append] at hown
        have Hb' := Lib.hid (below_grown Hb.out hgrow (fun k e => own_base H0.out k e))
        have H4 := Lib.hid hown
        have H9' := Lib.hid (rd_grown H9.out hgrow (fun ad e hk => by cases e; have h1 := Option.some.inj hk; have h2 := Hne.out; (try dsimp only at h1 h2); omega))
        clear hown hgrow hat
        clear hHeld0
        refine hK.out _ _ (HQ.out _ Hb'.out) (fun hHeld0 => ?_)
        clear hK K
        clear Hb H0 H9 Hne
        have Hb := Hb'; clear Hb'
        have H9 := H9'; clear H9'
        obtain ⟨Wc, rfl⟩ : ∃ W, W = Wd := ⟨_, rfl⟩
        (try simp only [Act.put, List.getElem_toArray, List.getElem_cons_succ, List.getElem_cons_zero, List.setIfInBounds_toArray, List.set_cons_zero, List.set_cons_succ])
        refine readyS (rs := [10]) (by kernel_rfl) (by simp) ?_
        refine ReadyS.consH rfl (fun K hK => ?_) ReadyS.nil
        (try simp only [List.getElem_toArray, List.getElem_cons_succ, List.getElem_cons_zero])
        rw [if_pos (by kernel_rfl)]
        refine wp_app _ _ 49 (by rfl) w3.heap.size 56 (.agg #[.int .i64 0, .int .u32 0, .int .u32 0, .string ⟨#[]⟩]) 4 32 Try.underlying49 info_pt4 rfl (by decide) (by decide) (.slice A4 l.length c4) l.length (l.flatMap PtS.cells) (by rfl) _ 1 1 ([p].flatMap PtS.cells) (by rfl) H4.out rfl H9.out (flat_one PtS.cells_one _) (by omega) Hb.out.size ?_
        intro A10 c10 Wd hown hgrow hat
        have Hb' := Lib.hid (below_grown Hb.out hgrow (fun k e => own_base H4.out k e))
        rw [← List.flatMap_append] at hown
        have H10 := Lib.hid hown
        clear hown hgrow hat
        clear hHeld0
        refine hK.out _ _ (HQ.out _ Hb'.out) (fun hHeld0 => ?_)
        clear hK K
        clear Hb H4 H9
        have Hb := Hb'; clear Hb'
        obtain ⟨Wc, rfl⟩ : ∃ W, W = Wd := ⟨_, rfl⟩
        (try simp only [Act.put, List.getElem_toArray, List.getElem_cons_succ, List.getElem_cons_zero, List.setIfInBounds_toArray, List.set_cons_zero, List.set_cons_succ])
        clear hHeld0
        refine readyS (rs := [11]) (by kernel_rfl) (by simp) ?_
        refine ReadyS.consH rfl (fun K hK => ?_) ReadyS.nil
        (try simp only [List.getElem_toArray, List.getElem_cons_succ, List.getElem_cons_zero])
        go_simp
        have HSm := same_ok (.slice A l.length cap) (.slice A10 (l.length + 1) c10) l (l ++ [p]) Wc (HV.out.below (below_up HWr0.out Hb.out)) (by
          have h0 : Wc.ownsRow w3.heap.size 56 4 (.slice A10 (l.length + 1) c10) (l.length + 1) ((l ++ [p]).flatMap PtS.cells) := H10.out
          exact srd_own PtS.cells_len (by decide) h0) (by omega) (by rw [List.length_append, List.length_singleton]; omega)
        rw [eqL_f (fun e => by have := congrArg List.length e; rw [List.length_append, List.length_singleton] at this; omega)] at HSm
        (with_reducible refine HSm.mono ?_); rintro e W11 ⟨rfl, hb⟩
        have Hb11 := Lib.hid (below_up Hb.out hb)
        clear HSm hb
        refine hK.out _ _ (HQ.out _ Hb11.out) (fun hHeld0 => ?_)
        clear hK K
        (try simp only [Act.put, List.getElem_toArray, List.getElem_cons_succ, List.getElem_cons_zero, List.setIfInBounds_toArray, List.set_cons_zero, List.set_cons_succ])
        refine takeF (i := 12) (v := ?_) rfl (by kernel_rfl) (fun _ _ _ h => h) (Or.inl ⟨by kernel_rfl, ?_⟩) (by assumption) ?_; rotate_left; (focus (intro w _; go_simp; (try with_reducible rfl); done)); (try simp only [Act.put, List.getElem_toArray, List.getElem_cons_succ, List.getElem_cons_zero, List.setIfInBounds_toArray, List.set_cons_zero, List.set_cons_succ])
        refine takeF (i := 13) (v := ?_) rfl (by kernel_rfl) (fun _ _ _ h => h) (Or.inl ⟨by kernel_rfl, ?_⟩) (by assumption) ?_; rotate_left; (focus (intro w _; go_simp; (try with_reducible rfl); done)); (try simp only [Act.put, List.getElem_toArray, List.getElem_cons_succ, List.getElem_cons_zero, List.setIfInBounds_toArray, List.set_cons_zero, List.set_cons_succ])
        refine takeF (i := 14) (v := ?_) rfl (by kernel_rfl) (fun _ _ _ h => h) (Or.inl ⟨by kernel_rfl, ?_⟩) (by assumption) ?_; rotate_left; (focus (intro w _; go_simp; (try with_reducible rfl); done)); (try simp only [Act.put, List.getElem_toArray, List.getElem_cons_succ, List.getElem_cons_zero, List.setIfInBounds_toArray, List.set_cons_zero, List.set_cons_succ])
        clear hHeld0
        refine readyS (rs := [15]) (by kernel_rfl) (by simp) ?_
        refine ReadyS.consH rfl (fun K hK => ?_) ReadyS.nil
        (try simp only [List.getElem_toArray, List.getElem_cons_succ, List.getElem_cons_zero])
        go_simp
        (with_reducible refine (HAl.out _).mono ?_); rintro e W15 ⟨rfl, hb⟩
        have Hb15 := Lib.hid (below_up Hb11.out hb)
        clear hb
        refine hK.out _ _ (HQ.out _ Hb15.out) (fun hHeld0 => ?_)
        clear hK K
        (try simp only [Act.put, List.getElem_toArray, List.getElem_cons_succ, List.getElem_cons_zero, List.setIfInBounds_toArray, List.set_cons_zero, List.set_cons_succ])
        refine takeF (i := 16) (v := ?_) rfl (by kernel_rfl) (fun _ _ _ h => h) (Or.inl ⟨by kernel_rfl, ?_⟩) (by assumption) ?_; rotate_left; (focus (intro w _; go_simp; (try with_reducible rfl); done)); (try simp only [Act.put, List.getElem_toArray, List.getElem_cons_succ, List.getElem_cons_zero, List.setIfInBounds_toArray, List.set_cons_zero, List.set_cons_succ])
        refine takeF (i := 17) (v := ?_) rfl (by kernel_rfl) (fun _ _ _ h => h) (Or.inl ⟨by kernel_rfl, ?_⟩) (by assumption) ?_; rotate_left; (focus (intro w _; go_simp; (try with_reducible rfl); done)); (try simp only [Act.put, List.getElem_toArray, List.getElem_cons_succ, List.getElem_cons_zero, List.setIfInBounds_toArray, List.set_cons_zero, List.set_cons_succ])
        clear hHeld0
        refine doneS (by kernel_rfl) ?_ _
        go_wp2
        go_ret
        exact ⟨rfl, below_up HWr0.out Hb15.out⟩
    · go_simp
      have H9' := Lib.hid (rd_new Wc #[.int .i64 p.id, .int .u32 (p.x : Nat), .int .u32 (p.y : Nat), .string p.d] 56 ([p].flatMap PtS.cells) rfl)
      have Hb' := Lib.hid (below_alloc Hb.out (.cells #[.int .i64 p.id, .int .u32 (p.x : Nat), .int .u32 (p.y : Nat), .string p.d] 56))
      clear hHeld0
      refine hK.out _ _ (HQ.out _ Hb'.out) (fun hHeld0 => ?_)
      clear hK K
      clear Hb
      have H9 := H9'; have Hb := Hb'; clear H9' Hb'
      generalize (World.alloc Wc _) = Wd at *
      obtain ⟨Wc, rfl⟩ : ∃ W, W = Wd := ⟨_, rfl⟩
      (try simp only [Act.put, List.getElem_toArray, List.getElem_cons_succ, List.getElem_cons_zero, List.setIfInBounds_toArray, List.set_cons_zero, List.set_cons_succ])
      refine readyS (rs := [5]) (by kernel_rfl) (by simp) ?_
      refine ReadyS.consH rfl (fun K hK => ?_) ReadyS.nil
      (try simp only [List.getElem_toArray, List.getElem_cons_succ, List.getElem_cons_zero])
      go_simp
      have H0' := Lib.hid (own_lower (own_zero Wc 56 4) Hb.out.size)
      have Hb' := Lib.hid (below_alloc Hb.out (.cells #[] 56))
      have Hne := Lib.hid (H9.out.lt (by simp [PtS.cells]))
      have H9' := Lib.hid (H9.out.below (below_alloc1 Wc (.cells #[] 56)))
      clear hHeld0
      refine hK.out _ _ (HQ.out _ Hb'.out) (fun hHeld0 => ?_)
      clear hK K
      clear Hb H9
      have H0 := H0'; have Hb := Hb'; clear H0' Hb'
      have H9 := H9'; clear H9'
      generalize (World.alloc Wc _) = Wd at *
      obtain ⟨Wc, rfl⟩ : ∃ W, W = Wd := ⟨_, rfl⟩
      (try simp only [Act.put, List.getElem_toArray, List.getElem_cons_succ, List.getElem_cons_zero, List.setIfInBounds_toArray, List.set_cons_zero, List.set_cons_succ])
      refine readyS (rs := [7]) (by kernel_rfl) (by simp) ?_
      refine ReadyS.consH rfl (fun K hK => ?_) ReadyS.nil
      (try simp only [List.getElem_toArray, List.getElem_cons_succ, List.getElem_cons_zero])
      rw [if_pos (by kernel_rfl)]
      refine wp_app _ _ 49 (by rfl) w3.heap.size 56 (.agg #[.int .i64 0, .int .u32 0, .int .u32 0, .string ⟨#[]⟩]) 4 32 Try.underlying49 info_pt4 rfl (by decide) (by decide) _ 0 [] (by rfl) A l.length cap (l.flatMap PtS.cells) (by rfl) H0.out (by rw [flat_len PtS.cells_len]) (HRt.out _ Hb.out) (flat_one PtS.cells_one _) (by omega) Hb.out.size ?_
      intro A4 c4 Wd hown hgrow hat
      rw [Nat.zero_add] at hown hat ⊢
      rw [List.nil_append] at hown
      have Hb' := Lib.hid (below_grown Hb.out hgrow (fun k e => own_base H0.out k e))
      have H4 := Lib.hid hown
      have H9' := Lib.hid (rd_grown H9.out hgrow (fun ad e hk => by cases e; have h1 := Option.some.inj hk; have h2 := Hne.out; (try dsimp only at h1 h2); omega))
      clear hown hgrow hat
      clear hHeld0
      refine hK.out _ _ (HQ.out _ Hb'.out) (fun hHeld0 => ?_)
      clear hK K
      clear Hb H0 H9 Hne
      have Hb := Hb'; clear Hb'
      have H9 := H9'; clear H9'
      obtain ⟨Wc, rfl⟩ : ∃ W, W = Wd := ⟨_, rfl⟩
      (try simp only [Act.put, List.getElem_toArray, List.getElem_cons_succ, List.getElem_cons_zero, List.setIfInBounds_toArray, List.set_cons_zero, List.set_cons_succ])
      refine readyS (rs := [10]) (by kernel_rfl) (by simp) ?_
      refine ReadyS.consH rfl (fun K hK => ?_) ReadyS.nil
      (try simp only [List.getElem_toArray, List.getElem_cons_succ, List.getElem_cons_zero])
      rw [if_pos (by kernel_rfl)]
      refine wp_app _ _ 49 (by rfl) w3.heap.size 56 (.agg #[.int .i64 0, .int .u32 0, .int .u32 0, .string ⟨#[]⟩]) 4 32 Try.underlying49 info_pt4 rfl (by decide) (by decide) (.slice A4 l.length c4) l.length (l.flatMap PtS.cells) (by rfl) _ 1 1 ([p].flatMap PtS.cells) (by rfl) H4.out rfl H9.out (flat_one PtS.cells_one _) (by omega) Hb.out.size ?_
      intro A10 c10 Wd hown hgrow hat
      have Hb' := Lib.hid (below_grown Hb.out hgrow (fun k e => own_base H4.out k e))
      rw [← List.flatMap_append] at hown
      have H10 := Lib.hid hown
      clear hown hgrow hat
      clear hHeld0
      refine hK.out _ _ (HQ.out _ Hb'.out) (fun hHeld0 => ?_)
      clear hK K
      clear Hb H4 H9
      have Hb := Hb'; clear Hb'
      obtain ⟨Wc, rfl⟩ : ∃ W, W = Wd := ⟨_, rfl⟩
      (try simp only [Act.put, List.getElem_toArray, List.getElem_cons_succ, List.getElem_cons_zero, List.setIfInBounds_toArray, List.set_cons_zero, List.set_cons_succ])
      clear hHeld0
      refine readyS (rs := [11]) (by kernel_rfl) (by simp) ?_
      refine ReadyS.consH rfl (fun K hK => ?_) ReadyS.nil
      (try simp only [List.getElem_toArray, List.getElem_cons_succ, List.getElem_cons_zero])
      go_simp
      have HSm := same_ok (.slice A l.length cap) (.slice A10 (l.length + 1) c10) l (l ++ [p]) Wc (HV.out.below (below_up HWr0.out Hb.out)) (by
        have h0 : Wc.ownsRow w3.heap.size 56 4 (.slice A10 (l.length + 1) c10) (l.length + 1) ((l ++ [p]).flatMap PtS.cells) := H10.out
        exact srd_own PtS.cells_len (by decide) h0) (by omega) (by rw [List.length_append, List.length_singleton]; omega)
      rw [eqL_f (fun e => by have := congrArg List.length e; rw [List.length_append, List.length_singleton] at this; omega)] at HSm
      (with_reducible refine HSm.mono ?_); rintro e W11 ⟨rfl, hb⟩
      have Hb11 := Lib.hid (below_up Hb.out hb)
      clear HSm hb
      refine hK.out _ _ (HQ.out _ Hb11.out) (fun hHeld0 => ?_)
      clear hK K
      (try simp only [Act.put, List.getElem_toArray, List.getElem_cons_succ, List.getElem_cons_zero, List.setIfInBounds_toArray, List.set_cons_zero, List.set_cons_succ])
      refine takeF (i := 12) (v := ?_) rfl (by kernel_rfl) (fun _ _ _ h => h) (Or.inl ⟨by kernel_rfl, ?_⟩) (by assumption) ?_; rotate_left; (focus (intro w _; go_simp; (try with_reducible rfl); done)); (try simp only [Act.put, List.getElem_toArray, List.getElem_cons_succ, List.getElem_cons_zero, List.setIfInBounds_toArray, List.set_cons_zero, List.set_cons_succ])
      refine takeF (i := 13) (v := ?_) rfl (by kernel_rfl) (fun _ _ _ h => h) (Or.inl ⟨by kernel_rfl, ?_⟩) (by assumption) ?_; rotate_left; (focus (intro w _; go_simp; (try with_reducible rfl); done)); (try simp only [Act.put, List.getElem_toArray, List.getElem_cons_succ, List.getElem_cons_zero, List.setIfInBounds_toArray, List.set_cons_zero, List.set_cons_succ])
      refine takeF (i := 14) (v := ?_) rfl (by kernel_rfl) (fun _ _ _ h => h) (Or.inl ⟨by kernel_rfl, ?_⟩) (by assumption) ?_; rotate_left; (focus (intro w _; go_simp; (try with_reducible rfl); done)); (try simp only [Act.put, List.getElem_toArray, List.getElem_cons_succ, List.getElem_cons_zero, List.setIfInBounds_toArray, List.set_cons_zero, List.set_cons_succ])
      clear hHeld0
      refine readyS (rs := [15]) (by kernel_rfl) (by simp) ?_
      refine ReadyS.consH rfl (fun K hK => ?_) ReadyS.nil
      (try simp only [List.getElem_toArray, List.getElem_cons_succ, List.getElem_cons_zero])
      go_simp
      (with_reducible refine (HAl.out _).mono ?_); rintro e W15 ⟨rfl, hb⟩
      have Hb15 := Lib.hid (below_up Hb11.out hb)
      clear hb
      refine hK.out _ _ (HQ.out _ Hb15.out) (fun hHeld0 => ?_)
      clear hK K
      (try simp only [Act.put, List.getElem_toArray, List.getElem_cons_succ, List.getElem_cons_zero, List.setIfInBounds_toArray, List.set_cons_zero, List.set_cons_succ])
      refine takeF (i := 16) (v := ?_) rfl (by kernel_rfl) (fun _ _ _ h => h) (Or.inl ⟨by kernel_rfl, ?_⟩) (by assumption) ?_; rotate_left; (focus (intro w _; go_simp; (try with_reducible rfl); done)); (try simp only [Act.put, List.getElem_toArray, List.getElem_cons_succ, List.getElem_cons_zero, List.setIfInBounds_toArray, List.set_cons_zero, List.set_cons_succ])
      refine takeF (i := 17) (v := ?_) rfl (by kernel_rfl) (fun _ _ _ h => h) (Or.inl ⟨by kernel_rfl, ?_⟩) (by assumption) ?_; rotate_left; (focus (intro w _; go_simp; (try with_reducible rfl); done)); (try simp only [Act.put, List.getElem_toArray, List.getElem_cons_succ, List.getElem_cons_zero, List.setIfInBounds_toArray, List.set_cons_zero, List.set_cons_succ])
      clear hHeld0
      refine doneS (by kernel_rfl) ?_ _
      go_wp2
      go_ret
      exact ⟨rfl, below_up HWr0.out Hb15.out⟩
end Go.Proofs.Ytdomngpkahgoiaa.Md
