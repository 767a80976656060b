/- The walk over croftref08.Read: octets of a leaf. -/
import Derived.Test.YthpnlgdcijmocaaNd11
namespace Go.Proofs.Ythpnlgdcijmocaa.Nd
open Go.RowKit Lt Pt Rg
set_option linter.unusedVariables false
set_option linter.unusedSimpArgs false
theorem brd_rest {W : World} {g o n c : Nat} {l : List UInt8} (hr : Rd W (some ⟨g, o, none⟩) (bv l)) (hn : l.length = n) (hc : n ≤ c) (k : Nat) (hk : k ≤ n) : BRd W (.slice (if c = k then some ⟨g, o, none⟩ else some ⟨g, o + k, none⟩) (n - k) (c - k)) (l.drop k) := by
  by_cases h : c = k
  · rw [if_pos h]
    have e : l.drop k = [] := List.drop_of_length_le (by omega)
    rw [e]
    rw [show n - k = 0 by omega]
    exact ⟨some ⟨g, o, none⟩, c - k, rfl, Nat.zero_le _, Rd.nil _ _, fun ad _ h => absurd rfl h⟩
  · rw [if_neg h]
    have h1 := brd_sl hr k n (c - k) hk (by omega) (by omega)
    rw [List.take_of_length_le (by omega)] at h1
    exact h1
theorem gTo_len {k : Nat} {r : List UInt8} {l : List PtS} {q : List UInt8} (h : gTo k r = some (l, q)) : l.length = k := by
  have := (gTo_rd r k).1 l q h
  have h2 := rdTo_len k (inOk r)
  rw [this] at h2
  exact h2
theorem gTo_mono {k m : Nat} {r : List UInt8} (h : gTo k r = none) (hm : k ≤ m) : gTo m r = none := by
  induction hm with
  | refl => exact h
  | step _ ih => simp only [gTo, ih]
theorem ref_leaf {b : List UInt8} (h1 : b.getD 0 0 = 1) (h3 : 3 ≤ b.length) (d : NdD) : RefTo b d ↔ ∃ l, gTo (b.getD 2 0).toNat (b.drop 3) = some (l, []) ∧ d = refLeaf b l ∧ d.May := by
  constructor
  · rintro (⟨_, h, _⟩ | ⟨_, _, h⟩)
    · rw [h1] at h; cases h
    · exact h
  · exact fun h => .inr ⟨h3, h1, h⟩
set_option maxHeartbeats 8000000 in
set_option maxRecDepth 100000 in
theorem rread_leaf (v : Value) (b : List UInt8) (w : World) (hv : BRd w v b) (h3 : 3 ≤ b.length) (h1 : b.getD 0 0 = 1) (hlb : b.length ≤ 140737488351232) :
    Calls Try.prog 48 #[v] w fun e w' => RReadE b w w' e ∧ Below w.heap.size w w' := by
  have hsz : (w.alloc (.cells zcN 49)).heap.size = w.heap.size + 1 := by unfold World.alloc; simp
  have qz := alloc_at (w := w) (.cells zcN 49) rfl
  have qb := below_alloc (below_alloc1 w (.cells zcN 49)) (.cells zcN 49)
  have HZ := Lib.hid (alloc_old qz (.cells zcN 49))
  have HN := Lib.hid (alloc_at (w := w.alloc (.cells zcN 49)) (n := w.heap.size + 1) (.cells zcN 49) hsz.symm)
  have HB := Lib.hid qb
  have HIz := Lib.hid (And.intro (infoN_nd NdS.zero) (And.intro (holdN_zc NdS.zero) (oneN_nd NdS.zero rfl)))
  obtain ⟨g, o, c, rfl, hc, hr⟩ := brd_at hv (by omega)
  have c0 := cell_up (rd_oct hr 0 (by omega)) qb
  rw [h1, Nat.add_zero] at c0
  have e1 : ((1 : UInt8).toNat : Int) = 1 := rfl
  rw [e1] at c0
  have HR := Lib.hid hr
  have HRf := Lib.hid (ref_leaf h1 h3)
  have hgl : g < w.heap.size := hr.lt (by rw [bv_length]; omega)
  have HC1 := Lib.hid (rd_oct hr 1 (by omega))
  have HC2 := Lib.hid (rd_oct hr 2 (by omega))
  have HRest := Lib.hid (brd_rest (c := c) hr rfl hc 3 h3)
  have hm255 : (b.getD 2 0).toNat < 256 := UInt8.toNat_lt _
  have hx255 : (b.getD 1 0).toNat < 256 := UInt8.toNat_lt _
  have hrl : (b.drop 3).length ≤ b.length := by rw [List.length_drop]; omega
  have HDf : Hid (∀ l, refLeaf b l = ⟨true, l, ((b.getD 1 0).toNat : Nat), fun _ => 0, fun _ => 0⟩) := Lib.hid (fun _ => rfl)
  obtain ⟨m, hm⟩ : ∃ m, (b.getD 2 0).toNat = m := ⟨_, rfl⟩
  obtain ⟨nx, hnx⟩ : ∃ m, (b.getD 1 0).toNat = m := ⟨_, rfl⟩
  obtain ⟨r, hrr⟩ : ∃ r, b.drop 3 = r := ⟨_, rfl⟩
  rw [hm] at HC2 hm255
  rw [hnx] at HC1 hx255 HDf
  rw [hrr] at HRest hrl
  rw [hm, hrr] at HRf
  have b3 : (3 : Int) ≤ b.length := by omega
  have b0 : (0 : Int) < b.length := by omega
  have b1 : (1 : Int) < b.length := by omega
  have b2 : (2 : Int) < b.length := by omega
  have bc : (b.length : Int) ≤ c := by omega
  have d3 : decide (b.length < 3) = false := decide_eq_false (by omega)
  have d3i : decide ((b.length : Int) < 3) = false := decide_eq_false (by omega)
  clear hm hnx hrr qz qb hv hr h1 e1
  obtain ⟨L, hL⟩ : ∃ L, b.length = L := ⟨_, rfl⟩
  rw [hL] at hc h3 hlb hrl b3 b0 b1 b2 bc d3 d3i HRest ⊢
  clear hL
  go_enter Try.func48, Try.ntmps48
  go_upto_region 12 with (fail)
  all_goals
    have hd1 := below_drew1 (w := (w.alloc (.cells zcN 49)).alloc (.cells zcN 49))
    have HD0 := Lib.hid (below_up HB.out hd1)
    have HN0 := Lib.hid (block_up HN.out hd1)
    have HZ0 := Lib.hid (block_up HZ.out hd1)
    have HQ1 : Hid (∀ W', Below w.heap.size w W' → W'.cell? ⟨g, o + 1, none⟩ = some (.int .u8 (nx : Nat))) := Lib.hid (fun W' hb => cell_up HC1.out hb)
    have HQ2 : Hid (∀ W', Below w.heap.size w W' → W'.cell? ⟨g, o + 2, none⟩ = some (.int .u8 (m : Nat))) := Lib.hid (fun W' hb => cell_up HC2.out hb)
    have kx : IntKind.i64.wrap (nx : Int) = (nx : Int) := by rw [IntKind.wrap_i64]; omega
    have km : IntKind.i64.wrap (m : Int) = (m : Int) := by rw [IntKind.wrap_i64]; omega
    clear hd1 c0 HC1 HC2
    refine beginS (S := fun W' => W'.cell? ⟨g, o + 1, none⟩ = some (.int .u8 (nx : Nat))) [] (by kernel_rfl) (HQ1.out _ HD0.out) (fun hHeld0 => ?_)
    generalize (World.drew _) = W0 at *
    refine takeF (i := 0) (v := ?_) rfl (by kernel_rfl) (fun _ _ _ h => h) (Or.inl ⟨by kernel_rfl, ?_⟩) (by assumption) ?_; rotate_left; (focus (intro w _; go_simp; (try with_reducible rfl); done)); (try simp only [Act.put, List.getElem_toArray, List.getElem_cons_succ, List.getElem_cons_zero, List.setIfInBounds_toArray, List.set_cons_zero, List.set_cons_succ])
    refine takeF (i := 1) (v := ?_) rfl (by kernel_rfl) (fun _ _ _ h => h) (Or.inl ⟨by kernel_rfl, ?_⟩) (by assumption) ?_; rotate_left; (focus (intro w _; go_simp; (try with_reducible rfl); done)); (try simp only [Act.put, List.getElem_toArray, List.getElem_cons_succ, List.getElem_cons_zero, List.setIfInBounds_toArray, List.set_cons_zero, List.set_cons_succ])
    refine takeH (i := 2) (v := ?_) rfl (by kernel_rfl) (fun _ _ _ h => h) (Or.inl ⟨by kernel_rfl, ?_⟩) (by assumption) ?_; rotate_left; (focus (intro w hSw; (try dsimp only at hSw); go_simp; (try with_reducible rfl); done)); (try simp only [Act.put, List.getElem_toArray, List.getElem_cons_succ, List.getElem_cons_zero, List.setIfInBounds_toArray, List.set_cons_zero, List.set_cons_succ])
    refine takeF (i := 3) (v := ?_) rfl (by kernel_rfl) (fun _ _ _ h => h) (Or.inl ⟨by kernel_rfl, ?_⟩) (by assumption) ?_; rotate_left; (focus (intro w _; go_simp; (try with_reducible rfl); done)); (try simp only [Act.put, List.getElem_toArray, List.getElem_cons_succ, List.getElem_cons_zero, List.setIfInBounds_toArray, List.set_cons_zero, List.set_cons_succ])
    refine takeF (i := 4) (v := ?_) rfl (by kernel_rfl) (fun _ _ _ h => h) (Or.inl ⟨by kernel_rfl, ?_⟩) (by assumption) ?_; rotate_left; (focus (intro w _; go_simp; (try with_reducible rfl); done)); (try simp only [Act.put, List.getElem_toArray, List.getElem_cons_succ, List.getElem_cons_zero, List.setIfInBounds_toArray, List.set_cons_zero, List.set_cons_succ])
    clear hHeld0
    have q0 : W0.cell? ⟨w.heap.size + 1, 0, none⟩ = some (.bool false) := by rw [cell_block HN0.out]; rfl
    have f0 := free_block HN0.out 0
    refine readyS (rs := [5]) (by kernel_rfl) (by simp) ?_
    refine ReadyS.consH rfl (fun K hK => ?_) ReadyS.nil
    (try simp only [List.getElem_toArray, List.getElem_cons_succ, List.getElem_cons_zero])
    go_simp
    have HN1 : Hid ((W0.setCell ⟨w.heap.size + 1, 0, none⟩ (.bool true)).heap[w.heap.size + 1]? = some (.cells (ncells ⟨true, .slice none 0 0, [], 0, fun _ => 0, fun _ => 0⟩) 49 (0, 0))) := Lib.hid (blk_set HN0.out 0 (.bool true))
    have HZ1 := Lib.hid (blk_far HZ0.out (p := ⟨w.heap.size + 1, 0, none⟩) (by show w.heap.size ≠ w.heap.size + 1; omega) (.bool true))
    have HD1 : Hid (Below w.heap.size w (W0.setCell ⟨w.heap.size + 1, 0, none⟩ (.bool true))) := Lib.hid (((Fr.of_below (S := fun x => x = w.heap.size + 1) HD0.out).set (p := ⟨w.heap.size + 1, 0, none⟩) (fun _ => rfl) _).toBelow (fun x h => by subst h; omega) (Nat.le_refl _))
    refine hK.out _ _ (HQ1.out _ HD1.out) (fun hHeld => ?_)
    clear hK K
    (try simp only [Act.put, List.getElem_toArray, List.getElem_cons_succ, List.getElem_cons_zero, List.setIfInBounds_toArray, List.set_cons_zero, List.set_cons_succ])
    clear q0 f0
    generalize (W0.setCell _ _) = W1 at *
    refine takeF (i := 6) (v := ?_) rfl (by kernel_rfl) (fun _ _ _ h => h) (Or.inl ⟨by kernel_rfl, ?_⟩) (by assumption) ?_; rotate_left; (focus (intro w _; go_simp; (try with_reducible rfl); done)); (try simp only [Act.put, List.getElem_toArray, List.getElem_cons_succ, List.getElem_cons_zero, List.setIfInBounds_toArray, List.set_cons_zero, List.set_cons_succ])
    clear hHeld
    have q2 : W1.cell? ⟨w.heap.size + 1, 2, none⟩ = some (.int .i64 0) := by rw [cell_block HN1.out]; rfl
    have f2 := free_block HN1.out 2
    refine readyS (rs := [7]) (by kernel_rfl) (by simp) ?_
    refine ReadyS.consH rfl (fun K hK => ?_) ReadyS.nil
    (try simp only [List.getElem_toArray, List.getElem_cons_succ, List.getElem_cons_zero])
    go_simp
    have HN2 : Hid ((W1.setCell ⟨w.heap.size + 1, 2, none⟩ (.int .i64 (nx : Nat))).heap[w.heap.size + 1]? = some (.cells (ncells ⟨true, .slice none 0 0, [], (nx : Nat), fun _ => 0, fun _ => 0⟩) 49 (0, 0))) := Lib.hid (blk_set HN1.out 2 (.int .i64 (nx : Nat)))
    have HZ2 := Lib.hid (blk_far HZ1.out (p := ⟨w.heap.size + 1, 2, none⟩) (by show w.heap.size ≠ w.heap.size + 1; omega) (.int .i64 (nx : Nat)))
    have HD2 : Hid (Below w.heap.size w (W1.setCell ⟨w.heap.size + 1, 2, none⟩ (.int .i64 (nx : Nat)))) := Lib.hid (((Fr.of_below (S := fun x => x = w.heap.size + 1) HD1.out).set (p := ⟨w.heap.size + 1, 2, none⟩) (fun _ => rfl) _).toBelow (fun x h => by subst h; omega) (Nat.le_refl _))
    refine hK.out _ _ (HQ1.out _ HD2.out) (fun hHeld => ?_)
    clear hK K
    (try simp only [Act.put, List.getElem_toArray, List.getElem_cons_succ, List.getElem_cons_zero, List.setIfInBounds_toArray, List.set_cons_zero, List.set_cons_succ])
    clear q2 f2 hHeld
    generalize (W1.setCell _ _) = W2 at *
    refine doneS (by kernel_rfl) ?_ _
    have HD3 := Lib.hid (below_up HD2.out (below_drew1 (w := W2)))
    have HN3 := Lib.hid (block_up HN2.out (below_drew1 (w := W2)))
    have HZ3 := Lib.hid (block_up HZ2.out (below_drew1 (w := W2)))
    go_upto_region 13 with (fail)
    refine beginS (S := fun W' => W'.cell? ⟨g, o + 2, none⟩ = some (.int .u8 (m : Nat))) [] (by kernel_rfl) (HQ2.out _ HD3.out) (fun hHeld0 => ?_)
    generalize (World.drew W2) = W3 at *
    refine takeF (i := 0) (v := ?_) rfl (by kernel_rfl) (fun _ _ _ h => h) (Or.inl ⟨by kernel_rfl, ?_⟩) (by assumption) ?_; rotate_left; (focus (intro w _; go_simp; (try with_reducible rfl); done)); (try simp only [Act.put, List.getElem_toArray, List.getElem_cons_succ, List.getElem_cons_zero, List.setIfInBounds_toArray, List.set_cons_zero, List.set_cons_succ])
    refine takeF (i := 1) (v := ?_) rfl (by kernel_rfl) (fun _ _ _ h => h) (Or.inl ⟨by kernel_rfl, ?_⟩) (by assumption) ?_; rotate_left; (focus (intro w _; go_simp; (try with_reducible rfl); done)); (try simp only [Act.put, List.getElem_toArray, List.getElem_cons_succ, List.getElem_cons_zero, List.setIfInBounds_toArray, List.set_cons_zero, List.set_cons_succ])
    refine takeH (i := 2) (v := ?_) rfl (by kernel_rfl) (fun _ _ _ h => h) (Or.inl ⟨by kernel_rfl, ?_⟩) (by assumption) ?_; rotate_left; (focus (intro w hSw; (try dsimp only at hSw); go_simp; (try with_reducible rfl); done)); (try simp only [Act.put, List.getElem_toArray, List.getElem_cons_succ, List.getElem_cons_zero, List.setIfInBounds_toArray, List.set_cons_zero, List.set_cons_succ])
    refine takeF (i := 3) (v := ?_) rfl (by kernel_rfl) (fun _ _ _ h => h) (Or.inl ⟨by kernel_rfl, ?_⟩) (by assumption) ?_; rotate_left; (focus (intro w _; go_simp; (try with_reducible rfl); done)); (try simp only [Act.put, List.getElem_toArray, List.getElem_cons_succ, List.getElem_cons_zero, List.setIfInBounds_toArray, List.set_cons_zero, List.set_cons_succ])
    refine takeF (i := 4) (v := ?_) rfl (by kernel_rfl) (fun _ _ _ h => h) (Or.inl ⟨by kernel_rfl, ?_⟩) (by assumption) ?_; rotate_left; (focus (intro w _; go_simp; (try with_reducible rfl); done)); (try simp only [Act.put, List.getElem_toArray, List.getElem_cons_succ, List.getElem_cons_zero, List.setIfInBounds_toArray, List.set_cons_zero, List.set_cons_succ])
    refine takeF (i := 5) (v := ?_) rfl (by kernel_rfl) (fun _ _ _ h => h) (Or.inl ⟨by kernel_rfl, ?_⟩) (by assumption) ?_; rotate_left; (focus (intro w _; go_simp; (try with_reducible rfl); done)); (try simp only [Act.put, List.getElem_toArray, List.getElem_cons_succ, List.getElem_cons_zero, List.setIfInBounds_toArray, List.set_cons_zero, List.set_cons_succ])
    refine takeF (i := 6) (v := ?_) rfl (by kernel_rfl) (fun _ _ _ h => h) (Or.inl ⟨by kernel_rfl, ?_⟩) (by assumption) ?_; rotate_left; (focus (intro w _; go_simp; (try with_reducible rfl); done)); (try simp only [Act.put, List.getElem_toArray, List.getElem_cons_succ, List.getElem_cons_zero, List.setIfInBounds_toArray, List.set_cons_zero, List.set_cons_succ])
    refine takeF (i := 7) (v := ?_) rfl (by kernel_rfl) (fun _ _ _ h => h) (Or.inl ⟨by kernel_rfl, ?_⟩) (by assumption) ?_; rotate_left; (focus (intro w _; go_simp; (try with_reducible rfl); done)); (try simp only [Act.put, List.getElem_toArray, List.getElem_cons_succ, List.getElem_cons_zero, List.setIfInBounds_toArray, List.set_cons_zero, List.set_cons_succ])
    clear hHeld0
    refine doneS (by kernel_rfl) ?_ _
    obtain ⟨A3, hA3⟩ : ∃ A3, (if c = 3 then some (⟨g, o, none⟩ : Addr) else some ⟨g, o + 3, none⟩) = A3 := ⟨_, rfl⟩
    rw [hA3] at HRest ⊢
    clear hA3
    go_wp2_with fail
    go_loopw [7, 8] (fun vr vi W => ∃ (j : Nat) (l : List PtS) (rest : List UInt8) (vs : Value), vi = .int .i64 j ∧ j ≤ m ∧ gTo j r = some (l, rest) ∧ rest.length ≤ L ∧ BRd w vr rest ∧ W.heap[w.heap.size + 1]? = some (.cells (ncells ⟨true, vs, [], (nx : Nat), fun _ => 0, fun _ => 0⟩) 49 (0, 0)) ∧ W.heap[w.heap.size]? = some (.cells zcN 49 (0, 0)) ∧ W.ownsRow w.heap.size 58 4 vs j (l.flatMap PtS.cells) ∧ Below w.heap.size w W) (fun _ vi _ => m - (intOf vi).toNat)
    case atStart => exact ⟨0, [], r, _, rfl, Nat.zero_le _, rfl, hrl, HRest.out, HN3.out, HZ3.out, ⟨rfl, .inl ⟨rfl, rfl⟩⟩, HD3.out⟩
    case round =>
    obtain ⟨j, l, rest, vs, rfl, hj, hG, hrs, hrb, hN, hZ, hO, hB⟩ := hrel
    obtain ⟨Av, cv, rfl, _⟩ := own_rd hO
    have HG := Lib.hid hG; have HRb := Lib.hid hrb; have HN4 := Lib.hid hN; have HZ4 := Lib.hid hZ; have HO4 := Lib.hid hO; have HB4 := Lib.hid hB
    clear hG hN hZ hO hB
    obtain ⟨Ar, cr, rfl, _, _, _⟩ := hrb
    by_cases hjm : j < m
    · have dj : decide (j < m) = true := decide_eq_true hjm
      have dji : decide ((j : Int) < m) = true := decide_eq_true (by omega)
      have hsu : gTo (j + 1) r = if (gpt rest).2 = 0 then none else some (l ++ [(gpt rest).1], rest.drop (gpt rest).2) := by simp only [gTo, HG.out]
      have hget := getpoint_ok (.slice Ar rest.length cr) rest wr (HRb.out.below HB4.out) (by omega)
      have hkl := (rdP_gpt rest).2.2
      obtain ⟨P, hP⟩ : ∃ P, (gpt rest).1 = P := ⟨_, rfl⟩
      obtain ⟨K, hK⟩ : ∃ K, (gpt rest).2 = K := ⟨_, rfl⟩
      rw [hP, hK] at hsu hget
      rw [hK] at hkl
      have HSu := Lib.hid hsu
      have HGet := Lib.hid hget
      have HKl : Hid (0 < K → K ≤ rest.length) := Lib.hid (fun h => (hkl h).2)
      clear hsu hget hkl hP hK
      go_wp2_with fail
      (with_reducible refine HGet.out.mono ?_); rintro e w6 ⟨rfl, hb6⟩
      have hba := below_up hb6 (below_alloc1 w6 (.cells #[.int .i64 P.id, .int .u32 (P.x : Nat), .int .u32 (P.y : Nat), .string P.d] 58))
      have HN6 := Lib.hid (block_up HN4.out hba)
      have HZ6 := Lib.hid (block_up HZ4.out hba)
      have HO6 := Lib.hid (own_below HO4.out hba)
      have HB6 := Lib.hid (below_up HB4.out hba)
      have HX6 := Lib.hid (alloc_at (w := w6) (.cells #[.int .i64 P.id, .int .u32 (P.x : Nat), .int .u32 (P.y : Nat), .string P.d] 58) rfl)
      have hgp := Nat.le_trans HB4.out.size hb6.size
      have hgr := hb6.size
      clear hba hb6
      by_cases hK0 : K = 0
      · subst hK0
        have hnone : gTo (j + 1) r = none := by rw [HSu.out, if_pos rfl]
        have HNo : Hid (∀ d, ¬ RefTo b d) := Lib.hid (fun d h => by
          obtain ⟨l', h2, _⟩ := (HRf.out d).1 h
          rw [gTo_mono hnone (by omega)] at h2
          cases h2)
        clear hnone
        go_wp2_with (with_reducible refine wpList_store_rowF rfl 49 _ _ rfl w.heap.size (ncells NdS.zero) rfl rfl 49 _ HZ6.out HIz.out.1 HIz.out.2.1 HIz.out.2.2 ?_; intro w8 hg8 hf8)
        refine bodyPost_ret (v := .tuple #[.agg zcN, .bool false]) (results_cell_tmp (p := 2) (t := 3) rfl _ _ w.heap.size _ _ (0, 0) _ rfl hg8 Try.underlying49 rfl HIz.out.1 _ rfl) rfl ⟨.inr ⟨HNo.out, rfl⟩, ?_⟩
        exact ((Fr.of_below (S := fun k => w.heap.size ≤ k) HB6.out).trans hf8 (fun k _ e => by subst e; exact Nat.le_refl _)).toBelow (fun _ h => h) (Nat.le_refl _)
      · have hKr : K ≤ rest.length := HKl.out (by omega)
        have e0 : ((K : Int) == 0) = false := by rw [beq_eq_false_iff_ne]; omega
        have e0n : (K == 0) = false := by rw [beq_eq_false_iff_ne]; exact hK0
        have hsome : gTo (j + 1) r = some (l ++ [P], rest.drop K) := by rw [HSu.out, if_neg hK0]
        have HSo := Lib.hid hsome
        clear hsome
        obtain ⟨gr, og, cr2, hv2, hcr, hrr⟩ := brd_at HRb.out (by omega)
        cases hv2
        have HRs := Lib.hid (brd_rest hrr rfl hcr K hKr)
        have bK : (K : Int) ≤ rest.length := by omega
        clear hrr
        go_upto_region 20 with (fail)
        have hdr := below_drew1 (w := w6.alloc (.cells #[.int .i64 P.id, .int .u32 (P.x : Nat), .int .u32 (P.y : Nat), .string P.d] 58))
        have HN7 := Lib.hid (block_up HN6.out hdr)
        have HZ7 := Lib.hid (block_up HZ6.out hdr)
        have HO7 := Lib.hid (own_below HO6.out hdr)
        have HB7 := Lib.hid (below_up HB6.out hdr)
        have HX7 := Lib.hid (block_up HX6.out hdr)
        have hng : Hid ((Value.slice Av j cv).ownBlock ≠ some (w.heap.size + 1)) := Lib.hid (own_ne_block HO4.out HN4.out (by decide))
        have hnz : Hid ((Value.slice Av j cv).ownBlock ≠ some w.heap.size) := Lib.hid (own_ne_block HO4.out HZ4.out (by decide))
        have hnp : Hid ((Value.slice Av j cv).ownBlock ≠ some w6.heap.size) := Lib.hid (fun e => absurd (own_lt HO4.out _ e) (by omega))
        clear HN6 HZ6 HO6 HB6 HX6 hdr
        generalize hgpe : w6.heap.size = gp at *
        clear hgpe
        have HQ : Hid (∀ W' : World, Fr (fun k => (Value.slice Av j cv).ownBlock = some k) (w6.alloc (.cells #[.int .i64 P.id, .int .u32 (P.x : Nat), .int .u32 (P.y : Nat), .string P.d] 58)).drew W' → (W'.cell? ⟨w.heap.size + 1, 1, none⟩ = some (.slice Av j cv)) ∧ (W'.cell? ⟨gp, 0, none⟩ = some (.int .i64 P.id) ∧ W'.cell? ⟨gp, 1, none⟩ = some (.int .u32 (P.x : Nat)) ∧ W'.cell? ⟨gp, 2, none⟩ = some (.int .u32 (P.y : Nat)) ∧ W'.cell? ⟨gp, 3, none⟩ = some (.string P.d))) := Lib.hid (fun W' hf =>
          ⟨by rw [cell_block (blk_fr HN7.out hf hng.out)]; rfl, cells4 (blk_fr HX7.out hf hnp.out)⟩)
        refine beginS (S := fun W' => (W'.cell? ⟨w.heap.size + 1, 1, none⟩ = some (.slice Av j cv)) ∧ (W'.cell? ⟨gp, 0, none⟩ = some (.int .i64 P.id) ∧ W'.cell? ⟨gp, 1, none⟩ = some (.int .u32 (P.x : Nat)) ∧ W'.cell? ⟨gp, 2, none⟩ = some (.int .u32 (P.y : Nat)) ∧ W'.cell? ⟨gp, 3, none⟩ = some (.string P.d))) [9] (by kernel_rfl) (HQ.out _ (Fr.refl _ _)) (fun hHeld0 => ?_)
        generalize (World.drew _) = Wa at *
        refine takeF (i := 0) (v := ?_) rfl (by kernel_rfl) (fun _ _ _ h => h) (Or.inl ⟨by kernel_rfl, ?_⟩) (by assumption) ?_; rotate_left; (focus (intro w _; go_simp; (try with_reducible rfl); done)); (try simp only [Act.put, List.getElem_toArray, List.getElem_cons_succ, List.getElem_cons_zero, List.setIfInBounds_toArray, List.set_cons_zero, List.set_cons_succ])
        refine takeH (i := 1) (v := ?_) rfl (by kernel_rfl) (fun _ _ _ h => h) (Or.inl ⟨by kernel_rfl, ?_⟩) (by assumption) ?_; rotate_left; (focus (intro w hSw; (try dsimp only at hSw); go_simp; (try with_reducible rfl); done)); (try simp only [Act.put, List.getElem_toArray, List.getElem_cons_succ, List.getElem_cons_zero, List.setIfInBounds_toArray, List.set_cons_zero, List.set_cons_succ])
        refine takeH (i := 2) (v := ?_) rfl (by kernel_rfl) (fun _ _ _ h => h) (Or.inl ⟨by kernel_rfl, ?_⟩) (by assumption) ?_; rotate_left; (focus (intro w hSw; (try dsimp only at hSw); go_simp; (try with_reducible rfl); done)); (try simp only [Act.put, List.getElem_toArray, List.getElem_cons_succ, List.getElem_cons_zero, List.setIfInBounds_toArray, List.set_cons_zero, List.set_cons_succ])
        refine takeF (i := 5) (v := ?_) rfl (by kernel_rfl) (fun _ _ _ h => h) (Or.inl ⟨by kernel_rfl, ?_⟩) (by assumption) ?_; rotate_left; (focus (intro w _; go_simp; (try with_reducible rfl); done)); (try simp only [Act.put, List.getElem_toArray, List.getElem_cons_succ, List.getElem_cons_zero, List.setIfInBounds_toArray, List.set_cons_zero, List.set_cons_succ])
        refine takeF (i := 6) (v := ?_) rfl (by kernel_rfl) (fun _ _ _ h => h) (Or.inl ⟨by kernel_rfl, ?_⟩) (by assumption) ?_; rotate_left; (focus (intro w _; go_simp; (try with_reducible rfl); done)); (try simp only [Act.put, List.getElem_toArray, List.getElem_cons_succ, List.getElem_cons_zero, List.setIfInBounds_toArray, List.set_cons_zero, List.set_cons_succ])
        refine takeF (i := 7) (v := ?_) rfl (by kernel_rfl) (fun _ _ _ h => h) (Or.inl ⟨by kernel_rfl, ?_⟩) (by assumption) ?_; rotate_left; (focus (intro w _; go_simp; (try with_reducible rfl); done)); (try simp only [Act.put, List.getElem_toArray, List.getElem_cons_succ, List.getElem_cons_zero, List.setIfInBounds_toArray, List.set_cons_zero, List.set_cons_succ])
        obtain ⟨A5, hA5⟩ : ∃ A5, (if cr = K then some (⟨gr, og, none⟩ : Addr) else some ⟨gr, og + K, none⟩) = A5 := ⟨_, rfl⟩
        rw [hA5] at HRs ⊢
        clear hA5
        refine readyS (rs := [3]) (by kernel_rfl) (by simp) ?_
        refine ReadyS.consH rfl (fun K hK => ?_) ReadyS.nil
        (try simp only [List.getElem_toArray, List.getElem_cons_succ, List.getElem_cons_zero])
        go_simp
        have hNw := Lib.hid (rd_new Wa #[.int .i64 P.id, .int .u32 (P.x : Nat), .int .u32 (P.y : Nat), .string P.d] 58 ([P].flatMap PtS.cells) rfl)
        have hF1 := Lib.hid (Fr.of_below (S := (fun k => (Value.slice Av j cv).ownBlock = some k)) (below_alloc1 Wa (.cells #[.int .i64 P.id, .int .u32 (P.x : Nat), .int .u32 (P.y : Nat), .string P.d] 58)))
        have hO1 := Lib.hid (own_below HO7.out (below_alloc1 Wa (.cells #[.int .i64 P.id, .int .u32 (P.x : Nat), .int .u32 (P.y : Nat), .string P.d] 58)))
        have hB1 := Lib.hid (below_up HB7.out (below_alloc1 Wa (.cells #[.int .i64 P.id, .int .u32 (P.x : Nat), .int .u32 (P.y : Nat), .string P.d] 58)))
        refine hK.out _ _ (HQ.out _ hF1.out) (fun hHeld => ?_)
        clear hK K
        (try simp only [Act.put, List.getElem_toArray, List.getElem_cons_succ, List.getElem_cons_zero, List.setIfInBounds_toArray, List.set_cons_zero, List.set_cons_succ])
        clear hHeld0
        generalize (World.alloc Wa _) = W5 at *
        refine readyS (rs := [4]) (by kernel_rfl) (by simp) ?_
        refine ReadyS.consH rfl (fun K hK => ?_) ReadyS.nil
        (try simp only [List.getElem_toArray, List.getElem_cons_succ, List.getElem_cons_zero])
        rw [if_pos (by kernel_rfl)]
        refine wp_app _ _ 46 (by rfl) w.heap.size 58 (.agg #[.int .i64 0, .int .u32 0, .int .u32 0, .string ⟨#[]⟩]) 4 32 Try.underlying46 infoN_pt rfl (by decide) (by decide) (.slice Av j cv) j (l.flatMap PtS.cells) (by rfl) _ 1 1 ([P].flatMap PtS.cells) (by rfl) hO1.out rfl hNw.out (flat_one PtS.cells_one _) (by omega) hB1.out.size ?_
        intro A8 c8 w8 hown hgrow hat
        have hF2 := Lib.hid (hF1.out.grown hgrow (fun k hk _ => hk))
        have HN8 := Lib.hid (blk_fr HN7.out hF2.out hng.out)
        have HZ8 := Lib.hid (blk_fr HZ7.out hF2.out hnz.out)
        have hB2 := Lib.hid (below_grown hB1.out hgrow (fun k e => own_base HO4.out k e))
        have hO2 : Hid (w8.ownsRow w.heap.size 58 4 (.slice A8 (j + 1) c8) (j + 1) ((l ++ [P]).flatMap PtS.cells)) := Lib.hid (by rw [List.flatMap_append]; exact hown)
        clear hat hown hgrow hHeld
        refine hK.out _ _ (HQ.out _ hF2.out) (fun hHeld => ?_)
        clear hK K
        (try simp only [Act.put, List.getElem_toArray, List.getElem_cons_succ, List.getElem_cons_zero, List.setIfInBounds_toArray, List.set_cons_zero, List.set_cons_succ])
        have q1 : w8.cell? ⟨w.heap.size + 1, 1, none⟩ = some (.slice Av j cv) := by rw [cell_block HN8.out]; rfl
        have f1 := free_block HN8.out 1
        refine takeF (i := 8) (v := ?_) rfl (by kernel_rfl) (fun _ _ _ h => h) (Or.inl ⟨by kernel_rfl, ?_⟩) (by assumption) ?_; rotate_left; (focus (intro w _; go_simp; (try with_reducible rfl); done)); (try simp only [Act.put, List.getElem_toArray, List.getElem_cons_succ, List.getElem_cons_zero, List.setIfInBounds_toArray, List.set_cons_zero, List.set_cons_succ])
        clear hHeld
        refine readyS (rs := [9]) (by kernel_rfl) (by simp) ?_
        refine ReadyS.consP rfl (by kernel_rfl) (fun K hK => ?_) ReadyS.nil
        (try simp only [List.getElem_toArray, List.getElem_cons_succ, List.getElem_cons_zero])
        go_simp
        have HN9 : Hid ((w8.setCell ⟨w.heap.size + 1, 1, none⟩ (.slice A8 (j + 1) c8)).heap[w.heap.size + 1]? = some (.cells (ncells ⟨true, .slice A8 (j + 1) c8, [], (nx : Nat), fun _ => 0, fun _ => 0⟩) 49 (0, 0))) := Lib.hid (blk_set HN8.out 1 _)
        have HZ9 := Lib.hid (blk_far HZ8.out (p := ⟨w.heap.size + 1, 1, none⟩) (by show w.heap.size ≠ w.heap.size + 1; omega) (.slice A8 (j + 1) c8))
        have HO9 := Lib.hid (own_set hO2.out (p := ⟨w.heap.size + 1, 1, none⟩) (own_ne_block hO2.out HN8.out (by decide)) (.slice A8 (j + 1) c8))
        have HB9 : Hid (Below w.heap.size w (w8.setCell ⟨w.heap.size + 1, 1, none⟩ (.slice A8 (j + 1) c8))) := Lib.hid (((Fr.of_below (S := fun x => x = w.heap.size + 1) hB2.out).set (p := ⟨w.heap.size + 1, 1, none⟩) (fun _ => rfl) _).toBelow (fun x h => by subst h; omega) (Nat.le_refl _))
        refine hK.out _ _ ?_
        clear hK K
        (try simp only [Act.put, List.getElem_toArray, List.getElem_cons_succ, List.getElem_cons_zero, List.setIfInBounds_toArray, List.set_cons_zero, List.set_cons_succ])
        clear q1 f1
        generalize (w8.setCell _ _) = w9 at *
        refine takeP (i := 10) (v := ?_) rfl (by kernel_rfl) (fun _ _ _ h => h) (Or.inl ⟨by kernel_rfl, ?_⟩) ?_; rotate_left; (focus (intro w _; go_simp; (try with_reducible rfl); done)); (try simp only [Act.put, List.getElem_toArray, List.getElem_cons_succ, List.getElem_cons_zero, List.setIfInBounds_toArray, List.set_cons_zero, List.set_cons_succ])
        refine doneS (by kernel_rfl) ?_ _
        go_wp2
        exact ⟨⟨j + 1, l ++ [P], rest.drop K, _, by go_num, by omega, HSo.out, by rw [List.length_drop]; omega, HRs.out, HN9.out, HZ9.out, HO9.out, HB9.out⟩, by simp [intOf]; omega⟩
    · obtain rfl : j = m := by omega
      have dj : decide (j < j) = false := decide_eq_false (by omega)
      have dji : decide ((j : Int) < j) = false := decide_eq_false (by omega)
      by_cases hre : rest = []
      · have hln := gTo_len HG.out
        have hmy := fun W' (h : PRd W' (.slice Av j cv) l) => rnode_ok ⟨true, .slice Av j cv, l, (nx : Nat), fun _ => 0, fun _ => 0⟩ W' h (by simp only; omega)
        subst hln
        subst hre
        obtain ⟨B, hB⟩ : ∃ B, mayB ⟨true, .slice Av l.length cv, l, (nx : Nat), fun _ => 0, fun _ => 0⟩ = B := ⟨_, rfl⟩
        simp only [hB] at hmy
        have HM := Lib.hid hmy
        have HBm := Lib.hid hB
        have n6 := nd_all HN4.out
        simp only at n6
        clear hmy hB
        rw [List.length_nil]
        go_wp2_with fail
        clear n6
        refine (HM.out _ (srd_own PtS.cells_len (by decide) HO4.out)).mono ?_; rintro e w7 ⟨rfl, hb7⟩
        have HZ7 := Lib.hid (block_up HZ4.out hb7)
        have HN7 := Lib.hid (block_up HN4.out hb7)
        have HO7 := Lib.hid (own_below HO4.out hb7)
        have HB7 := Lib.hid (below_up HB4.out hb7)
        clear hb7
        cases B
        · have HNo : Hid (∀ d, ¬ RefTo b d) := Lib.hid (fun d h => by
            obtain ⟨l', h2, h3', h5⟩ := (HRf.out d).1 h
            rw [HG.out] at h2
            cases h2
            subst h3'
            rw [HDf.out] at h5
            have h6 := (mayB_iff (NdD.nd ⟨true, l, (nx : Nat), fun _ => 0, fun _ => 0⟩ (.slice Av l.length cv))).2 h5
            rw [show mayB (NdD.nd ⟨true, l, (nx : Nat), fun _ => 0, fun _ => 0⟩ (.slice Av l.length cv)) = false from HBm.out] at h6
            cases h6)
          go_wp2_with (with_reducible refine wpList_store_rowF rfl 49 _ _ rfl w.heap.size (ncells NdS.zero) rfl rfl 49 _ HZ7.out HIz.out.1 HIz.out.2.1 HIz.out.2.2 ?_; intro w8 hg8 hf8)
          refine bodyPost_ret (v := .tuple #[.agg zcN, .bool false]) (results_cell_tmp (p := 2) (t := 3) rfl _ _ w.heap.size _ _ (0, 0) _ rfl hg8 Try.underlying49 rfl HIz.out.1 _ rfl) rfl ⟨.inr ⟨HNo.out, rfl⟩, ?_⟩
          exact ((Fr.of_below (S := fun k => w.heap.size ≤ k) HB7.out).trans hf8 (fun k _ e => by subst e; exact Nat.le_refl _)).toBelow (fun _ h => h) (Nat.le_refl _)

        · have hyes : Hid (RefTo b ⟨true, l, (nx : Nat), fun _ => 0, fun _ => 0⟩) := Lib.hid ((HRf.out _).2 ⟨l, HG.out, (HDf.out l).symm, (mayB_iff (NdD.nd ⟨true, l, (nx : Nat), fun _ => 0, fun _ => 0⟩ (.slice Av l.length cv))).1 HBm.out⟩)
          have HIy := Lib.hid (And.intro (infoN_nd ⟨true, .slice Av l.length cv, l, (nx : Nat), fun _ => 0, fun _ => 0⟩) (And.intro (holdN_zc ⟨true, .slice Av l.length cv, l, (nx : Nat), fun _ => 0, fun _ => 0⟩) (oneN_nd ⟨true, .slice Av l.length cv, l, (nx : Nat), fun _ => 0, fun _ => 0⟩ rfl)))
          go_wp2_with (first
            | (with_reducible refine wpList_store_rowF rfl 49 _ _ rfl w.heap.size (ncells ⟨true, .slice Av l.length cv, l, (nx : Nat), fun _ => 0, fun _ => 0⟩) rfl rfl 49 _ HZ7.out HIy.out.1 HIy.out.2.1 HIy.out.2.2 ?_; intro w8 hg8 hf8)
            | (with_reducible refine wpList_load_row rfl 49 _ rfl (w.heap.size + 1) rfl 49 (ncells ⟨true, .slice Av l.length cv, l, (nx : Nat), fun _ => 0, fun _ => 0⟩) (0, 0) _ HN7.out Try.underlying49 rfl HIy.out.1 ?_))
          refine bodyPost_ret (v := .tuple #[nv ⟨true, .slice Av l.length cv, l, (nx : Nat), fun _ => 0, fun _ => 0⟩, .bool true]) (results_cell_tmp (p := 2) (t := 3) rfl _ _ w.heap.size _ _ (0, 0) _ rfl hg8 Try.underlying49 rfl HIy.out.1 _ rfl) rfl ⟨.inl ⟨_, .slice Av l.length cv, hyes.out, rfl, ?_⟩, ?_⟩
          · exact own_fr HO7.out hf8 (fun k hk e => own_ne_block HO7.out HZ7.out (by decide) (by rw [hk, e]))
          · exact ((Fr.of_below (S := fun k => w.heap.size ≤ k) HB7.out).trans hf8 (fun k _ e => by subst e; exact Nat.le_refl _)).toBelow (fun _ h => h) (Nat.le_refl _)
      · have hl0 : rest.length ≠ 0 := fun h => hre (List.eq_nil_of_length_eq_zero h)
        have dl : decide ((rest.length : Int) > 0) = true := decide_eq_true (by omega)
        have dl2 : decide (0 < rest.length) = true := decide_eq_true (by omega)
        have HNo : Hid (∀ d, ¬ RefTo b d) := Lib.hid (fun d h => by
          obtain ⟨l', h2, _⟩ := (HRf.out d).1 h
          rw [HG.out] at h2
          cases h2
          exact hre rfl)
        go_wp2_with (with_reducible refine wpList_store_rowF rfl 49 _ _ rfl w.heap.size (ncells NdS.zero) rfl rfl 49 _ HZ4.out HIz.out.1 HIz.out.2.1 HIz.out.2.2 ?_; intro w8 hg8 hf8)
        refine bodyPost_ret (v := .tuple #[.agg zcN, .bool false]) (results_cell_tmp (p := 2) (t := 3) rfl _ _ w.heap.size _ _ (0, 0) _ rfl hg8 Try.underlying49 rfl HIz.out.1 _ rfl) rfl ⟨.inr ⟨HNo.out, rfl⟩, ?_⟩
        exact ((Fr.of_below (S := fun k => w.heap.size ≤ k) HB4.out).trans hf8 (fun k _ e => by subst e; exact Nat.le_refl _)).toBelow (fun _ h => h) (Nat.le_refl _)

/-- croftref08.Read. -/
theorem rread_ok (v : Value) (b : List UInt8) (w : World) (hv : BRd w v b) (hlb : b.length ≤ 140737488351232) :
    Calls Try.prog 48 #[v] w fun e w' => RReadE b w w' e ∧ Below w.heap.size w w' := by
  by_cases h13 : b.length = 13 ∧ b.getD 0 0 = 0
  · refine (rread_inner v b w hv h13.1 h13.2).mono ?_
    rintro e w' ⟨rfl, hb⟩
    refine ⟨?_, hb⟩
    by_cases hm : mayB ((refInner b).nd (.slice none 0 0)) = true
    · rw [if_pos hm]
      exact .inl ⟨refInner b, .slice none 0 0, .inl ⟨h13.1, h13.2, rfl, (mayB_iff _).1 hm⟩, rfl, ⟨rfl, .inl ⟨rfl, rfl⟩⟩⟩
    · rw [if_neg hm]
      refine .inr ⟨fun d h => ?_, rfl⟩
      rcases h with ⟨_, _, h, h2⟩ | ⟨_, h, _⟩
      · subst h; exact hm ((mayB_iff _).2 h2)
      · rw [h13.2] at h; cases h
  · by_cases h3 : b.length < 3 ∨ b.getD 0 0 ≠ 1
    · refine (rread_none v b w hv h13 h3).mono ?_
      rintro e w' ⟨rfl, hb⟩
      refine ⟨.inr ⟨fun d h => ?_, rfl⟩, hb⟩
      rcases h with ⟨h1, h2, _⟩ | ⟨h1, h2, _⟩
      · exact h13 ⟨h1, h2⟩
      · rcases h3 with h | h
        · omega
        · exact h h2
    · exact rread_leaf v b w hv (by omega) (Decidable.byContradiction fun h => h3 (.inr h)) hlb
end Go.Proofs.Ythpnlgdcijmocaa.Nd
