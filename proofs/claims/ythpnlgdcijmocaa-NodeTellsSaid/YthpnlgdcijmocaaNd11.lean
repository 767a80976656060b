/- The walk over croftref08.Read: octets of no node, and of an inner one. -/
import Derived.Test.YthpnlgdcijmocaaNd8
namespace Go.Proofs.Ythpnlgdcijmocaa.Nd
open Go.RowKit Lt Pt Rg
set_option linter.unusedVariables false
set_option linter.unusedSimpArgs false
theorem rd_oct {w : World} {g o : Nat} {l : List UInt8} (hr : Rd w (some ⟨g, o, none⟩) (bv l)) (i : Nat) (hi : i < l.length) : w.cell? ⟨g, o + i, none⟩ = some (.int .u8 ((l.getD i 0).toNat : Nat)) := by
  obtain ⟨ad, e, h⟩ := hr.at_ (i := i) (by rw [bv_length]; omega)
  cases e
  rw [add_plain] at h
  rw [h]
  simp [bv, List.getD]
  rw [List.getElem?_eq_getElem hi]
  rfl
theorem brd_at {w : World} {v : Value} {l : List UInt8} (h : BRd w v l) (hl : 0 < l.length) : ∃ g o c, v = .slice (some ⟨g, o, none⟩) l.length c ∧ l.length ≤ c ∧ Rd w (some ⟨g, o, none⟩) (bv l) := by
  obtain ⟨A, c, rfl, hc, hr, hA⟩ := h
  obtain ⟨ad, rfl, _⟩ := hr.at_ (i := 0) (by rw [bv_length]; omega)
  have hsp := hA ad rfl (by intro h; rw [h] at hl; exact absurd hl (by decide))
  obtain ⟨g, o, sp⟩ := ad
  simp only at hsp
  subst hsp
  exact ⟨g, o, c, rfl, hc, hr⟩
def RReadE (b : List UInt8) (w w' : World) (e : Ending) : Prop :=
  (∃ d v', RefTo b d ∧ e = .returned (.tuple #[nv (d.nd v'), .bool true]) ∧ w'.ownsRow w.heap.size 58 4 v' d.pts.length (d.pts.flatMap PtS.cells)) ∨
  ((∀ d, ¬ RefTo b d) ∧ e = .returned (.tuple #[.agg zcN, .bool false]))
set_option maxHeartbeats 8000000 in
set_option maxRecDepth 100000 in
theorem rread_none (v : Value) (b : List UInt8) (w : World) (hv : BRd w v b) (h13 : ¬ (b.length = 13 ∧ b.getD 0 0 = 0)) (h3 : b.length < 3 ∨ b.getD 0 0 ≠ 1) :
    Calls Try.prog 48 #[v] w fun e w' => e = .returned (.tuple #[.agg zcN, .bool false]) ∧ Below w.heap.size w w' := by
  have qz := alloc_at (w := w) (.cells zcN 49) rfl
  have qb := below_alloc (below_alloc1 w (.cells zcN 49)) (.cells zcN 49)
  have HZ := Lib.hid (alloc_old qz (.cells zcN 49))
  have HB := Lib.hid qb
  have HIz := Lib.hid (And.intro (infoN_nd NdS.zero) (And.intro (holdN_zc NdS.zero) (oneN_nd NdS.zero rfl)))
  have hend : Hid (∀ w8, Fr (fun k => k = w.heap.size) ((w.alloc (.cells zcN 49)).alloc (.cells zcN 49)) w8 → Below w.heap.size w w8) := Lib.hid (fun w8 hf => ((Fr.of_below (S := fun k => w.heap.size ≤ k) qb).trans hf (fun k _ e => by subst e; exact Nat.le_refl _)).toBelow (fun _ h => h) (Nat.le_refl _))
  by_cases hl3 : b.length < 3
  · obtain ⟨A, c, rfl, hc, hr, _⟩ := hv
    have e13 : ((b.length : Int) == 13) = false := by rw [beq_eq_false_iff_ne]; omega
    have e13n : (b.length == 13) = false := by rw [beq_eq_false_iff_ne]; omega
    have d3 : decide (b.length < 3) = true := decide_eq_true hl3
    have d3i : decide ((b.length : Int) < 3) = true := decide_eq_true (by omega)
    clear h13 h3 qz qb hr
    go_enter Try.func48, Try.ntmps48
    go_wp2_with (with_reducible refine wpList_store_rowF rfl 49 _ _ rfl w.heap.size (ncells NdS.zero) rfl rfl 49 _ HZ.out HIz.out.1 HIz.out.2.1 HIz.out.2.2 ?_; intro w8 hg8 hf8)
    refine bodyPost_ret (v := .tuple #[.agg zcN, .bool false]) (results_cell_tmp (p := 2) (t := 3) rfl _ _ w.heap.size _ _ (0, 0) _ rfl hg8 Try.underlying49 rfl HIz.out.1 _ rfl) rfl ⟨rfl, hend.out _ hf8⟩
  · obtain ⟨g, o, c, rfl, hc, hr⟩ := brd_at hv (by omega)
    have c0 := cell_up (rd_oct hr 0 (by omega)) qb
    have h1 : b.getD 0 0 ≠ 1 := by rcases h3 with h | h; exact absurd h hl3; exact h
    obtain ⟨k, hk⟩ : ∃ k, (b.getD 0 0).toNat = k := ⟨_, rfl⟩
    have hk1 : k ≠ 1 := fun e => h1 (UInt8.toNat_inj.1 (by rw [hk, e]; rfl))
    have e1 : ((k : Int) == 1) = false := by rw [beq_eq_false_iff_ne]; omega
    have e1n : (k == 1) = false := by rw [beq_eq_false_iff_ne]; exact hk1
    have d3 : decide (b.length < 3) = false := decide_eq_false hl3
    have d3i : decide ((b.length : Int) < 3) = false := decide_eq_false (by omega)
    rw [hk] at c0
    rw [Nat.add_zero] at c0
    by_cases hl13 : b.length = 13
    · have hk0 : k ≠ 0 := fun e => h13 ⟨hl13, UInt8.toNat_inj.1 (by rw [hk, e]; rfl)⟩
      have e0 : ((k : Int) == 0) = false := by rw [beq_eq_false_iff_ne]; omega
      have e0n : (k == 0) = false := by rw [beq_eq_false_iff_ne]; exact hk0
      rw [hl13] at d3 d3i ⊢
      clear h13 h3 qz qb hr hk h1
      go_enter Try.func48, Try.ntmps48
      go_wp2_with (with_reducible refine wpList_store_rowF rfl 49 _ _ rfl w.heap.size (ncells NdS.zero) rfl rfl 49 _ HZ.out HIz.out.1 HIz.out.2.1 HIz.out.2.2 ?_; intro w8 hg8 hf8)
      refine bodyPost_ret (v := .tuple #[.agg zcN, .bool false]) (results_cell_tmp (p := 2) (t := 3) rfl _ _ w.heap.size _ _ (0, 0) _ rfl hg8 Try.underlying49 rfl HIz.out.1 _ rfl) rfl ⟨rfl, hend.out _ hf8⟩
    · have e13 : ((b.length : Int) == 13) = false := by rw [beq_eq_false_iff_ne]; omega
      have e13n : (b.length == 13) = false := by rw [beq_eq_false_iff_ne]; exact hl13
      have bl : (0 : Int) < b.length := by omega
      have bl2 : 0 < b.length := by omega
      clear h13 h3 qz qb hr hk h1
      go_enter Try.func48, Try.ntmps48
      go_wp2_with (with_reducible refine wpList_store_rowF rfl 49 _ _ rfl w.heap.size (ncells NdS.zero) rfl rfl 49 _ HZ.out HIz.out.1 HIz.out.2.1 HIz.out.2.2 ?_; intro w8 hg8 hf8)
      refine bodyPost_ret (v := .tuple #[.agg zcN, .bool false]) (results_cell_tmp (p := 2) (t := 3) rfl _ _ w.heap.size _ _ (0, 0) _ rfl hg8 Try.underlying49 rfl HIz.out.1 _ rfl) rfl ⟨rfl, hend.out _ hf8⟩
def upk (b : List UInt8) (q : Nat) : Nat → Int := fun i => if i < q then ((b.getD (1 + i) 0).toNat : Nat) else 0
def upc (b : List UInt8) (q : Nat) : Nat → Int := fun i => if i < q then (getB ((b.drop (5 + 2 * i)).take 2) : Nat) else 0
theorem up_old {f : Nat → Int} {q i : Nat} (h : i ≠ q) : (if i < q + 1 then f i else 0) = (if i < q then f i else 0) := by
  by_cases h1 : i < q
  · rw [if_pos h1, if_pos (by omega)]
  · rw [if_neg h1, if_neg (by omega)]
theorem up_new {f : Nat → Int} (q : Nat) : (if q < q + 1 then f q else 0) = f q := if_pos (by omega)
set_option maxHeartbeats 8000000 in
set_option maxRecDepth 100000 in
theorem rread_inner (v : Value) (b : List UInt8) (w : World) (hv : BRd w v b) (h13 : b.length = 13) (h0 : b.getD 0 0 = 0) :
    Calls Try.prog 48 #[v] w fun e w' => (e = if mayB ((refInner b).nd (.slice none 0 0)) = true then .returned (.tuple #[nv ((refInner b).nd (.slice none 0 0)), .bool true]) else .returned (.tuple #[.agg zcN, .bool false])) ∧ Below w.heap.size w w' := by
  have hsz : (w.alloc (.cells zcN 49)).heap.size = w.heap.size + 1 := by unfold World.alloc; simp
  have qz := alloc_at (w := w) (.cells zcN 49) rfl
  have qb := below_alloc (below_alloc1 w (.cells zcN 49)) (.cells zcN 49)
  have HZ := Lib.hid (alloc_old qz (.cells zcN 49))
  have HN := Lib.hid (alloc_at (w := w.alloc (.cells zcN 49)) (n := w.heap.size + 1) (.cells zcN 49) hsz.symm)
  have HB := Lib.hid qb
  have HIz := Lib.hid (And.intro (infoN_nd NdS.zero) (And.intro (holdN_zc NdS.zero) (oneN_nd NdS.zero rfl)))
  obtain ⟨g, o, c, rfl, hc, hr⟩ := brd_at hv (by omega)
  have c0 := cell_up (rd_oct hr 0 (by omega)) qb
  rw [h0, Nat.add_zero] at c0
  have HR := Lib.hid hr
  have hgl : g < w.heap.size := hr.lt (by rw [bv_length]; omega)
  rw [h13] at hc ⊢
  obtain ⟨X, hX⟩ : ∃ X, mayB ((refInner b).nd (.slice none 0 0)) = X := ⟨_, rfl⟩
  rw [hX]
  obtain ⟨kf, hkf⟩ : ∃ f, upk b 4 = f := ⟨_, rfl⟩
  obtain ⟨cf, hcf⟩ : ∃ f, upc b 4 = f := ⟨_, rfl⟩
  have hri : refInner b = ⟨false, [], 0, kf, cf⟩ := by rw [← hkf, ← hcf]; rfl
  rw [hri] at hX ⊢
  have HF := Lib.hid (And.intro hX (And.intro hkf hcf))
  have e0 : ((0 : UInt8).toNat : Int) = 0 := rfl
  rw [e0] at c0
  clear hX hkf hcf hri qz hsz hr hv
  simp only [NdD.nd]
  go_enter Try.func48, Try.ntmps48
  go_wp2_with fail
  clear c0
  generalize ((w.alloc _).alloc _) = w1 at *
  go_loopw [5] (fun vq W => ∃ q : Nat, vq = .int .i64 q ∧ q ≤ 4 ∧ W.heap[w.heap.size + 1]? = some (.cells (ncells ⟨false, .slice none 0 0, [], 0, upk b q, upc b q⟩) 49 (0, 0)) ∧ W.heap[w.heap.size]? = some (.cells zcN 49 (0, 0)) ∧ Below w.heap.size w W) (fun vq _ => 4 - (intOf vq).toNat)
  case atStart => exact ⟨0, rfl, by omega, HN.out, HZ.out, HB.out⟩
  case round =>
  obtain ⟨q, rfl, hq, hN, hZ, hB⟩ := hrel
  have HN1 := Lib.hid hN; have HZ1 := Lib.hid hZ; have HB1 := Lib.hid hB
  clear hN hZ hB
  by_cases hq4 : q < 4
  · have dq : decide ((q : Int) < 4) = true := decide_eq_true (by omega)
    have bq : (q : Int) < 4 := by omega
    have HD := Lib.hid (below_up HB1.out (below_drew1 (w := wr)))
    have HN2 := Lib.hid (block_up HN1.out (below_drew1 (w := wr)))
    have HZ2 := Lib.hid (block_up HZ1.out (below_drew1 (w := wr)))
    obtain ⟨k, hk⟩ : ∃ k, (b.getD (1 + q) 0).toNat = k := ⟨_, rfl⟩
    obtain ⟨t, ht⟩ : ∃ k, getB ((b.drop (5 + 2 * q)).take 2) = k := ⟨_, rfl⟩
    have HQ : Hid (∀ W', Below w.heap.size w W' → W'.cell? ⟨g, o + (1 + q), none⟩ = some (.int .u8 (k : Nat))) := Lib.hid (fun W' hb => by
      rw [← hk]
      exact rd_oct (HR.out.below hb) (1 + q) (by omega))
    have HS : Hid (∀ W', Below w.heap.size w W' → Calls Try.prog 83 #[.slice (some ⟨g, o + (5 + 2 * q), none⟩) 2 (c - (5 + 2 * q))] W' fun e w' => e = .returned (.int .i64 (t : Nat)) ∧ w' = W') := Lib.hid (fun W' hb => by
      have h1 := brd_sl (HR.out.below hb) (5 + 2 * q) (7 + 2 * q) (c - (5 + 2 * q)) (by omega) (by omega) (by omega)
      rw [show 7 + 2 * q - (5 + 2 * q) = 2 by omega] at h1
      have h2 : ((b.take (7 + 2 * q)).drop (5 + 2 * q)) = (b.drop (5 + 2 * q)).take 2 := by rw [List.drop_take]; congr 1; omega
      rw [h2] at h1
      rw [← ht]
      exact refget_ok _ _ W' h1 (by simp; omega))
    have HSet : Hid (((ncells ⟨false, .slice none 0 0, [], 0, upk b q, upc b q⟩).setIfInBounds (3 + q) (.int .i64 (k : Nat))).setIfInBounds (7 + q) (.int .i64 (t : Nat)) = ncells ⟨false, .slice none 0 0, [], 0, upk b (q + 1), upc b (q + 1)⟩) := Lib.hid (by
      rw [ks_set ⟨false, .slice none 0 0, [], 0, upk b q, upc b q⟩ (upk b q) (upk b (q + 1)) q hq4 (k : Nat) (by unfold upk; rw [if_pos (by omega), hk]) (fun i hi => up_old (f := fun i => ((b.getD (1 + i) 0).toNat : Nat)) hi)]
      exact cs_set ⟨false, .slice none 0 0, [], 0, upk b (q + 1), upc b q⟩ (upc b q) (upc b (q + 1)) q hq4 (t : Nat) (by unfold upc; rw [if_pos (by omega), ht]) (fun i hi => up_old (f := fun i => (getB ((b.drop (5 + 2 * i)).take 2) : Nat)) hi))
    have hk255 : k < 256 := by rw [← hk]; exact UInt8.toNat_lt _
    clear hk ht
    have kt1 : (1 + (q : Int)).toNat = 1 + q := by omega
    have kt2 : (5 + 2 * (q : Int)).toNat = 5 + 2 * q := by omega
    have kt3 : (7 + 2 * (q : Int)).toNat = 7 + 2 * q := by omega
    have kb1 : (0 : Int) ≤ 1 + (q : Int) := by omega
    have kb2 : 1 + (q : Int) < 13 := by omega
    have kb3 : (0 : Int) ≤ 5 + 2 * (q : Int) := by omega
    have kb4 : 5 + 2 * (q : Int) ≤ 7 + 2 * (q : Int) := by omega
    have kb5 : 7 + 2 * (q : Int) ≤ (c : Int) := by omega
    have kb6 : (0 : Int) ≤ 7 + 2 * (q : Int) := by omega
    have kb7 : 5 + 2 * q ≤ 7 + 2 * q := by omega
    have kb8 : 7 + 2 * q ≤ c := by omega
    have ks2 : 7 + 2 * q - (5 + 2 * q) = 2 := by omega
    have kw1 : IntKind.i64.wrap (1 + (q : Int)) = 1 + (q : Int) := by rw [IntKind.wrap_i64]; omega
    have kw2 : IntKind.i64.wrap (2 * (q : Int)) = 2 * (q : Int) := by rw [IntKind.wrap_i64]; omega
    have kw3 : IntKind.i64.wrap (5 + 2 * (q : Int)) = 5 + 2 * (q : Int) := by rw [IntKind.wrap_i64]; omega
    have kw4 : IntKind.i64.wrap (7 + 2 * (q : Int)) = 7 + 2 * (q : Int) := by rw [IntKind.wrap_i64]; omega
    have kw5 : IntKind.i64.wrap (k : Int) = (k : Int) := by rw [IntKind.wrap_i64]; omega
    have hcc : ¬ c = 5 + 2 * q := by omega
    go_upto_region 6 with (fail)
    refine beginS (S := fun W' => W'.cell? ⟨g, o + (1 + q), none⟩ = some (.int .u8 (k : Nat))) [19, 22] (by kernel_rfl) (HQ.out _ HD.out) (fun hHeld0 => ?_)
    generalize (World.drew wr) = W0 at *
    refine takeF (i := 0) (v := ?_) rfl (by kernel_rfl) (fun _ _ _ h => h) (Or.inl ⟨by kernel_rfl, ?_⟩) (by assumption) ?_; rotate_left; (focus (intro w _; go_simp; (try with_reducible rfl); done)); (try simp only [Act.put, List.getElem_toArray, List.getElem_cons_succ, List.getElem_cons_zero, List.setIfInBounds_toArray, List.set_cons_zero, List.set_cons_succ])
    refine takeF (i := 1) (v := ?_) rfl (by kernel_rfl) (fun _ _ _ h => h) (Or.inl ⟨by kernel_rfl, ?_⟩) (by assumption) ?_; rotate_left; (focus (intro w _; go_simp; (try with_reducible rfl); done)); (try simp only [Act.put, List.getElem_toArray, List.getElem_cons_succ, List.getElem_cons_zero, List.setIfInBounds_toArray, List.set_cons_zero, List.set_cons_succ])
    refine takeF (i := 2) (v := ?_) rfl (by kernel_rfl) (fun _ _ _ h => h) (Or.inl ⟨by kernel_rfl, ?_⟩) (by assumption) ?_; rotate_left; (focus (intro w _; go_simp; (try with_reducible rfl); done)); (try simp only [Act.put, List.getElem_toArray, List.getElem_cons_succ, List.getElem_cons_zero, List.setIfInBounds_toArray, List.set_cons_zero, List.set_cons_succ])
    refine takeF (i := 3) (v := ?_) rfl (by kernel_rfl) (fun _ _ _ h => h) (Or.inl ⟨by kernel_rfl, ?_⟩) (by assumption) ?_; rotate_left; (focus (intro w _; go_simp; (try with_reducible rfl); done)); (try simp only [Act.put, List.getElem_toArray, List.getElem_cons_succ, List.getElem_cons_zero, List.setIfInBounds_toArray, List.set_cons_zero, List.set_cons_succ])
    refine takeF (i := 4) (v := ?_) rfl (by kernel_rfl) (fun _ _ _ h => h) (Or.inl ⟨by kernel_rfl, ?_⟩) (by assumption) ?_; rotate_left; (focus (intro w _; go_simp; (try with_reducible rfl); done)); (try simp only [Act.put, List.getElem_toArray, List.getElem_cons_succ, List.getElem_cons_zero, List.setIfInBounds_toArray, List.set_cons_zero, List.set_cons_succ])
    refine takeF (i := 5) (v := ?_) rfl (by kernel_rfl) (fun _ _ _ h => h) (Or.inl ⟨by kernel_rfl, ?_⟩) (by assumption) ?_; rotate_left; (focus (intro w _; go_simp; (try with_reducible rfl); done)); (try simp only [Act.put, List.getElem_toArray, List.getElem_cons_succ, List.getElem_cons_zero, List.setIfInBounds_toArray, List.set_cons_zero, List.set_cons_succ])
    refine takeH (i := 6) (v := ?_) rfl (by kernel_rfl) (fun _ _ _ h => h) (Or.inl ⟨by kernel_rfl, ?_⟩) (by assumption) ?_; rotate_left; (focus (intro w hSw; (try dsimp only at hSw); go_simp; (try with_reducible rfl); done)); (try simp only [Act.put, List.getElem_toArray, List.getElem_cons_succ, List.getElem_cons_zero, List.setIfInBounds_toArray, List.set_cons_zero, List.set_cons_succ])
    refine takeF (i := 7) (v := ?_) rfl (by kernel_rfl) (fun _ _ _ h => h) (Or.inl ⟨by kernel_rfl, ?_⟩) (by assumption) ?_; rotate_left; (focus (intro w _; go_simp; (try with_reducible rfl); done)); (try simp only [Act.put, List.getElem_toArray, List.getElem_cons_succ, List.getElem_cons_zero, List.setIfInBounds_toArray, List.set_cons_zero, List.set_cons_succ])
    refine takeF (i := 8) (v := ?_) rfl (by kernel_rfl) (fun _ _ _ h => h) (Or.inl ⟨by kernel_rfl, ?_⟩) (by assumption) ?_; rotate_left; (focus (intro w _; go_simp; (try with_reducible rfl); done)); (try simp only [Act.put, List.getElem_toArray, List.getElem_cons_succ, List.getElem_cons_zero, List.setIfInBounds_toArray, List.set_cons_zero, List.set_cons_succ])
    refine takeF (i := 9) (v := ?_) rfl (by kernel_rfl) (fun _ _ _ h => h) (Or.inl ⟨by kernel_rfl, ?_⟩) (by assumption) ?_; rotate_left; (focus (intro w _; go_simp; (try with_reducible rfl); done)); (try simp only [Act.put, List.getElem_toArray, List.getElem_cons_succ, List.getElem_cons_zero, List.setIfInBounds_toArray, List.set_cons_zero, List.set_cons_succ])
    refine takeF (i := 10) (v := ?_) rfl (by kernel_rfl) (fun _ _ _ h => h) (Or.inl ⟨by kernel_rfl, ?_⟩) (by assumption) ?_; rotate_left; (focus (intro w _; go_simp; (try with_reducible rfl); done)); (try simp only [Act.put, List.getElem_toArray, List.getElem_cons_succ, List.getElem_cons_zero, List.setIfInBounds_toArray, List.set_cons_zero, List.set_cons_succ])
    refine takeF (i := 11) (v := ?_) rfl (by kernel_rfl) (fun _ _ _ h => h) (Or.inl ⟨by kernel_rfl, ?_⟩) (by assumption) ?_; rotate_left; (focus (intro w _; go_simp; (try with_reducible rfl); done)); (try simp only [Act.put, List.getElem_toArray, List.getElem_cons_succ, List.getElem_cons_zero, List.setIfInBounds_toArray, List.set_cons_zero, List.set_cons_succ])
    refine takeF (i := 12) (v := ?_) rfl (by kernel_rfl) (fun _ _ _ h => h) (Or.inl ⟨by kernel_rfl, ?_⟩) (by assumption) ?_; rotate_left; (focus (intro w _; go_simp; (try with_reducible rfl); done)); (try simp only [Act.put, List.getElem_toArray, List.getElem_cons_succ, List.getElem_cons_zero, List.setIfInBounds_toArray, List.set_cons_zero, List.set_cons_succ])
    refine takeF (i := 13) (v := ?_) rfl (by kernel_rfl) (fun _ _ _ h => h) (Or.inl ⟨by kernel_rfl, ?_⟩) (by assumption) ?_; rotate_left; (focus (intro w _; go_simp; (try with_reducible rfl); done)); (try simp only [Act.put, List.getElem_toArray, List.getElem_cons_succ, List.getElem_cons_zero, List.setIfInBounds_toArray, List.set_cons_zero, List.set_cons_succ])
    refine takeF (i := 14) (v := ?_) rfl (by kernel_rfl) (fun _ _ _ h => h) (Or.inl ⟨by kernel_rfl, ?_⟩) (by assumption) ?_; rotate_left; (focus (intro w _; go_simp; (try with_reducible rfl); done)); (try simp only [Act.put, List.getElem_toArray, List.getElem_cons_succ, List.getElem_cons_zero, List.setIfInBounds_toArray, List.set_cons_zero, List.set_cons_succ])
    refine takeF (i := 15) (v := ?_) rfl (by kernel_rfl) (fun _ _ _ h => h) (Or.inl ⟨by kernel_rfl, ?_⟩) (by assumption) ?_; rotate_left; (focus (intro w _; go_simp; (try with_reducible rfl); done)); (try simp only [Act.put, List.getElem_toArray, List.getElem_cons_succ, List.getElem_cons_zero, List.setIfInBounds_toArray, List.set_cons_zero, List.set_cons_succ])
    refine takeF (i := 17) (v := ?_) rfl (by kernel_rfl) (fun _ _ _ h => h) (Or.inl ⟨by kernel_rfl, ?_⟩) (by assumption) ?_; rotate_left; (focus (intro w _; go_simp; (try with_reducible rfl); done)); (try simp only [Act.put, List.getElem_toArray, List.getElem_cons_succ, List.getElem_cons_zero, List.setIfInBounds_toArray, List.set_cons_zero, List.set_cons_succ])
    refine takeF (i := 18) (v := ?_) rfl (by kernel_rfl) (fun _ _ _ h => h) (Or.inl ⟨by kernel_rfl, ?_⟩) (by assumption) ?_; rotate_left; (focus (intro w _; go_simp; (try with_reducible rfl); done)); (try simp only [Act.put, List.getElem_toArray, List.getElem_cons_succ, List.getElem_cons_zero, List.setIfInBounds_toArray, List.set_cons_zero, List.set_cons_succ])
    refine takeF (i := 20) (v := ?_) rfl (by kernel_rfl) (fun _ _ _ h => h) (Or.inl ⟨by kernel_rfl, ?_⟩) (by assumption) ?_; rotate_left; (focus (intro w _; go_simp; (try with_reducible rfl); done)); (try simp only [Act.put, List.getElem_toArray, List.getElem_cons_succ, List.getElem_cons_zero, List.setIfInBounds_toArray, List.set_cons_zero, List.set_cons_succ])
    clear hHeld0
    refine readyS (rs := [16]) (by kernel_rfl) (by simp) ?_
    refine ReadyS.consH rfl (fun K hK => ?_) ReadyS.nil
    (try simp only [List.getElem_toArray, List.getElem_cons_succ, List.getElem_cons_zero])
    go_simp
    refine (HS.out _ HD.out).mono ?_; rintro e W1 ⟨rfl, rfl⟩
    refine hK.out _ _ (HQ.out _ HD.out) (fun hHeld => ?_)
    clear hK K
    (try simp only [Act.put, List.getElem_toArray, List.getElem_cons_succ, List.getElem_cons_zero, List.setIfInBounds_toArray, List.set_cons_zero, List.set_cons_succ])
    clear hHeld
    have q3 := (nd_cells HN2.out).2.2.2.1 q hq4
    simp only at q3
    have f3 := free_block HN2.out (3 + q)
    refine readyS (rs := [19]) (by kernel_rfl) (by simp) ?_
    refine ReadyS.consP rfl (by kernel_rfl) (fun K hK => ?_) ReadyS.nil
    (try simp only [List.getElem_toArray, List.getElem_cons_succ, List.getElem_cons_zero])
    go_simp
    have HN3 := Lib.hid (blk_set HN2.out (3 + q) (.int .i64 (k : Nat)))
    have HZ3 := Lib.hid (blk_far HZ2.out (p := ⟨w.heap.size + 1, 3 + q, none⟩) (by show w.heap.size ≠ w.heap.size + 1; omega) (.int .i64 (k : Nat)))
    have HD3 : Hid (Below w.heap.size w (W1.setCell ⟨w.heap.size + 1, 3 + q, none⟩ (.int .i64 (k : Nat)))) := Lib.hid (((Fr.of_below (S := fun x => x = w.heap.size + 1) HD.out).set (p := ⟨w.heap.size + 1, 3 + q, none⟩) (fun _ => rfl) _).toBelow (fun x h => by subst h; omega) (Nat.le_refl _))
    refine hK.out _ _ ?_
    clear hK K
    (try simp only [Act.put, List.getElem_toArray, List.getElem_cons_succ, List.getElem_cons_zero, List.setIfInBounds_toArray, List.set_cons_zero, List.set_cons_succ])
    clear q3 f3
    generalize (W1.setCell _ _) = W2 at *
    refine takeP (i := 21) (v := ?_) rfl (by kernel_rfl) (fun _ _ _ h => h) (Or.inl ⟨by kernel_rfl, ?_⟩) ?_; rotate_left; (focus (intro w _; go_simp; (try with_reducible rfl); done)); (try simp only [Act.put, List.getElem_toArray, List.getElem_cons_succ, List.getElem_cons_zero, List.setIfInBounds_toArray, List.set_cons_zero, List.set_cons_succ])
    have q7 : W2.cell? ⟨w.heap.size + 1, 7 + q, none⟩ = some (.int .i64 (upc b q q)) := by
      rw [cell_block HN3.out]
      rcases (by omega : q = 0 ∨ q = 1 ∨ q = 2 ∨ q = 3) with rfl | rfl | rfl | rfl <;> rfl
    have f7 := free_block HN3.out (7 + q)
    refine readyS (rs := [22]) (by kernel_rfl) (by simp) ?_
    refine ReadyS.consP rfl (by kernel_rfl) (fun K hK => ?_) ReadyS.nil
    (try simp only [List.getElem_toArray, List.getElem_cons_succ, List.getElem_cons_zero])
    go_simp
    have HN4 := Lib.hid (blk_set HN3.out (7 + q) (.int .i64 (t : Nat)))
    have HZ4 := Lib.hid (blk_far HZ3.out (p := ⟨w.heap.size + 1, 7 + q, none⟩) (by show w.heap.size ≠ w.heap.size + 1; omega) (.int .i64 (t : Nat)))
    have HD4 : Hid (Below w.heap.size w (W2.setCell ⟨w.heap.size + 1, 7 + q, none⟩ (.int .i64 (t : Nat)))) := Lib.hid (((Fr.of_below (S := fun x => x = w.heap.size + 1) HD3.out).set (p := ⟨w.heap.size + 1, 7 + q, none⟩) (fun _ => rfl) _).toBelow (fun x h => by subst h; omega) (Nat.le_refl _))
    refine hK.out _ _ ?_
    clear hK K
    (try simp only [Act.put, List.getElem_toArray, List.getElem_cons_succ, List.getElem_cons_zero, List.setIfInBounds_toArray, List.set_cons_zero, List.set_cons_succ])
    clear q7 f7
    generalize (W2.setCell _ _) = W3 at *
    refine doneS (by kernel_rfl) ?_ _
    have HN5 : Hid (W3.heap[w.heap.size + 1]? = some (.cells (ncells ⟨false, .slice none 0 0, [], 0, upk b (q + 1), upc b (q + 1)⟩) 49 (0, 0))) := Lib.hid (by rw [← HSet.out]; exact HN4.out)
    clear HN4
    go_wp2
    exact ⟨⟨q + 1, by go_num, by omega, HN5.out, HZ4.out, HD4.out⟩, by simp [intOf]; omega⟩
  · obtain rfl : q = 4 := by omega
    have hN := HN1.out
    rw [HF.out.2.1, HF.out.2.2] at hN
    have HN2 := Lib.hid hN
    have n6 := nd_all hN
    simp only at n6
    clear hN
    have HM := fun W' => rnode_ok ⟨false, .slice none 0 0, [], 0, kf, cf⟩ W' (srd_nil _ _ _) (by simp)
    have hX := HF.out.1
    simp only [NdD.nd] at hX
    rw [hX] at HM
    have HM2 := Lib.hid HM
    clear HM hX
    rw [show ((4 : Nat) : Int) = 4 from rfl]
    go_wp2_with fail
    clear n6
    (with_reducible refine (HM2.out _).mono ?_); rintro e w7 ⟨rfl, hb7⟩
    have HZ7 := Lib.hid (block_up HZ1.out hb7)
    have HN7 := Lib.hid (block_up HN2.out hb7)
    have HB7 := Lib.hid (below_up HB1.out hb7)
    clear hb7
    have hend : Hid (∀ w8, Fr (fun k => k = w.heap.size) w7 w8 → Below w.heap.size w w8) := Lib.hid (fun w8 hf => ((Fr.of_below (S := fun k => w.heap.size ≤ k) HB7.out).trans hf (fun k _ e => by subst e; exact Nat.le_refl _)).toBelow (fun _ h => h) (Nat.le_refl _))
    cases X
    · simp only [Bool.false_eq_true, if_false]
      go_wp2_with (with_reducible refine wpList_store_rowF rfl 49 _ _ rfl w.heap.size (ncells NdS.zero) rfl rfl 49 _ HZ7.out HIz.out.1 HIz.out.2.1 HIz.out.2.2 ?_; intro w8 hg8 hf8)
      refine bodyPost_ret (v := .tuple #[.agg zcN, .bool false]) (results_cell_tmp (p := 2) (t := 3) rfl _ _ w.heap.size _ _ (0, 0) _ rfl hg8 Try.underlying49 rfl HIz.out.1 _ rfl) rfl ⟨rfl, hend.out _ hf8⟩
    · simp only [if_true]
      have HIy := Lib.hid (And.intro (infoN_nd ⟨false, .slice none 0 0, [], 0, kf, cf⟩) (And.intro (holdN_zc ⟨false, .slice none 0 0, [], 0, kf, cf⟩) (oneN_nd ⟨false, .slice none 0 0, [], 0, kf, cf⟩ rfl)))
      go_wp2_with (first
        | (with_reducible refine wpList_store_rowF rfl 49 _ _ rfl w.heap.size (ncells ⟨false, .slice none 0 0, [], 0, kf, cf⟩) rfl rfl 49 _ HZ7.out HIy.out.1 HIy.out.2.1 HIy.out.2.2 ?_; intro w8 hg8 hf8)
        | (with_reducible refine wpList_load_row rfl 49 _ rfl (w.heap.size + 1) rfl 49 (ncells ⟨false, .slice none 0 0, [], 0, kf, cf⟩) (0, 0) _ HN7.out Try.underlying49 rfl HIy.out.1 ?_))
      refine bodyPost_ret (v := .tuple #[nv ⟨false, .slice none 0 0, [], 0, kf, cf⟩, .bool true]) (results_cell_tmp (p := 2) (t := 3) rfl _ _ w.heap.size _ _ (0, 0) _ rfl hg8 Try.underlying49 rfl HIy.out.1 _ rfl) rfl ⟨rfl, hend.out _ hf8⟩
end Go.Proofs.Ythpnlgdcijmocaa.Nd
