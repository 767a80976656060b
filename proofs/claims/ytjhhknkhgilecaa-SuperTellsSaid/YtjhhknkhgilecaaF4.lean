/- The walk over croftref01.Sector, where a sector is made. -/
import Derived.Test.YtjhhknkhgilecaaF3
namespace Go.Proofs.Ytjhhknkhgilecaa.Fm
open Go.RowKit Lt
set_option linter.unusedVariables false
set_option linter.unusedSimpArgs false
theorem rnum1 (N : Nat) (w : World) (hN : N ≤ 9223372036854775807) : Calls Try.prog 49 #[.int .i64 N, .int .i64 1] w fun e w' => ∃ v, e = .returned v ∧ Below w.heap.size w w' ∧ BRd w' v (numB 1 N) := rnum N 1 w hN (by decide)
theorem rnum2 (N : Nat) (w : World) (hN : N ≤ 9223372036854775807) : Calls Try.prog 49 #[.int .i64 N, .int .i64 2] w fun e w' => ∃ v, e = .returned v ∧ Below w.heap.size w w' ∧ BRd w' v (numB 2 N) := rnum N 2 w hN (by decide)
theorem rnum4 (N : Nat) (w : World) (hN : N ≤ 9223372036854775807) : Calls Try.prog 49 #[.int .i64 N, .int .i64 4] w fun e w' => ∃ v, e = .returned v ∧ Below w.heap.size w w' ∧ BRd w' v (numB 4 N) := rnum N 4 w hN (by decide)
def slLen (v : Value) : Nat := match v with | .slice _ n _ => n | _ => 0
theorem rep_succ (n : Nat) : List.replicate (n + 1) (0 : UInt8) = List.replicate n 0 ++ [0] := by rw [List.replicate_succ']
theorem brd_ownl {w : World} {base n : Nat} {v : Value} {l : List UInt8} (h : w.ownsRow base 5 1 v n (bv l)) : BRd w v l := brd_own h
set_option maxHeartbeats 8000000 in
set_option maxRecDepth 100000 in
theorem sector_yes (k0 E Q P : Nat) (v : Value) (t : List UInt8) (w : World) (hv : BRd w v t) (hk0 : k0 ≤ 255) (hE : E ≤ 4294967295) (hQ : Q ≤ 4294967295) (hP : P ≤ 65535) (hn : t.length ≤ 238) :
    Calls Try.prog 14 #[.int .i64 k0, .agg #[.int .i64 E, .int .i64 Q, .int .i64 P], v] w fun e w' => ∃ x, e = .returned (.tuple #[x, .int .i64 0]) ∧ BRd w' x (r6 k0 E Q P t ++ List.replicate (238 - t.length) 0 ++ numB 4 (Crc.crc (r6 k0 E Q P t ++ List.replicate (238 - t.length) 0))) ∧ Below w.heap.size w w' := by
  have HV := Lib.hid hv
  obtain ⟨A, c, rfl, _, _, _⟩ := hv
  have hg := alloc_at (w := w) (.cells #[.int .i64 E, .int .i64 Q, .int .i64 P] 32) rfl
  have hb0 := below_alloc1 w (.cells #[.int .i64 E, .int .i64 Q, .int .i64 P] 32)
  have HG := Lib.hid (And.intro hg hb0); clear hg hb0
  have hd : decide ((238 : Int) < t.length) = false := decide_eq_false (by omega)
  go_enter Try.func14, Try.ntmps14
  go_upto_region 6 with (fail)
  generalize (w.alloc _) = w0 at *
  have h67 : BRd (w0.alloc (.cells #[.int .u8 67, .int .u8 82] 5)) (.slice (some ⟨w0.heap.size, 0, none⟩) 2 2) [67, 82] := brd_own (l := [67, 82]) (own_new w0 w0.heap.size 5 1 2 #[.int .u8 67, .int .u8 82] (Nat.le_refl _) (by decide) rfl)
  have hba := below_up HG.out.2 (below_alloc1 w0 (.cells #[.int .u8 67, .int .u8 82] 5))
  have hb0a := below_alloc1 w0 (.cells #[.int .u8 67, .int .u8 82] 5)
  have HA := Lib.hid (And.intro h67 hb0a); clear h67 hba hb0a
  go_wp2_with fail
  generalize (w0.alloc _) = wa at *
  (with_reducible refine (rnum1 k0 wa (by omega)).mono ?_); rintro e wb ⟨v1, rfl, hb, hv1⟩
  have H1 := Lib.hid (And.intro hv1 (And.intro (HA.out.1.below hb) (below_up HA.out.2 hb))); clear hb hv1
  go_wp2_with fail
  (with_reducible refine (rcat _ _ _ _ wb H1.out.2.1 H1.out.1 (by simp [numB_length])).mono ?_); rintro e wc ⟨x1, rfl, hb, hx⟩
  have hx : BRd wc x1 (r1 k0) := brd_ownl hx
  have H2 := Lib.hid (And.intro hx (below_up H1.out.2.2 hb)); clear hb hx
  have hcell := fun (W : World) (hb : Below w0.heap.size w0 W) => cells3 (block_up HG.out.1 hb)
  have HC := Lib.hid hcell; clear hcell
  go_upto_region 7 with (fail)
  go_cut [9] (fun v9 wx => BRd wx v9 (r3 k0 E Q) ∧ Below w0.heap.size w0 wx)
  case first =>
    refine wp_region_held_drew (S := fun W => (W.cell? ⟨w.heap.size, 0, none⟩ = some (.int .i64 E) ∧ W.cell? ⟨w.heap.size, 1, none⟩ = some (.int .i64 Q) ∧ W.cell? ⟨w.heap.size, 2, none⟩ = some (.int .i64 P)) ∧ Below w0.heap.size w0 W) (by kernel_rfl) ⟨HC.out _ (H2.out.2.trans (below_drew1.mono H2.out.2.size)), H2.out.2.trans (below_drew1.mono H2.out.2.size)⟩ (fun hHeld0 => ?_)
    have hx := H2.out.1.below below_drew1
    generalize (World.drew wc) = wd at *
    refine wpAnyH_take (i := 0) (v := ?_) rfl (by kernel_rfl) (by kernel_rfl) (by kernel_rfl) (fun _ _ _ h => h) (Or.inl ⟨by kernel_rfl, ?_⟩) (by assumption) ?_; rotate_left; (focus (intro w hSw; (try dsimp only at hSw); go_simp; (try with_reducible rfl); done)); (try simp only [Act.put, List.getElem_toArray, List.getElem_cons_succ, List.getElem_cons_zero, List.setIfInBounds_toArray, List.set_cons_zero, List.set_cons_succ])
    refine wpAnyH_take (i := 1) (v := ?_) rfl (by kernel_rfl) (by kernel_rfl) (by kernel_rfl) (fun _ _ _ h => h) (Or.inl ⟨by kernel_rfl, ?_⟩) (by assumption) ?_; rotate_left; (focus (intro w hSw; (try dsimp only at hSw); go_simp; (try with_reducible rfl); done)); (try simp only [Act.put, List.getElem_toArray, List.getElem_cons_succ, List.getElem_cons_zero, List.setIfInBounds_toArray, List.set_cons_zero, List.set_cons_succ])
    refine wpAnyH_take (i := 2) (v := ?_) rfl (by kernel_rfl) (by kernel_rfl) (by kernel_rfl) (fun _ _ _ h => h) (Or.inl ⟨by kernel_rfl, ?_⟩) (by assumption) ?_; rotate_left; (focus (intro w hSw; (try dsimp only at hSw); go_simp; (try with_reducible rfl); done)); (try simp only [Act.put, List.getElem_toArray, List.getElem_cons_succ, List.getElem_cons_zero, List.setIfInBounds_toArray, List.set_cons_zero, List.set_cons_succ])
    refine wpAnyH_take (i := 5) (v := ?_) rfl (by kernel_rfl) (by kernel_rfl) (by kernel_rfl) (fun _ _ _ h => h) (Or.inl ⟨by kernel_rfl, ?_⟩) (by assumption) ?_; rotate_left; (focus (intro w hSw; (try dsimp only at hSw); go_simp; (try with_reducible rfl); done)); (try simp only [Act.put, List.getElem_toArray, List.getElem_cons_succ, List.getElem_cons_zero, List.setIfInBounds_toArray, List.set_cons_zero, List.set_cons_succ])
    refine wpAnyH_take (i := 6) (v := ?_) rfl (by kernel_rfl) (by kernel_rfl) (by kernel_rfl) (fun _ _ _ h => h) (Or.inl ⟨by kernel_rfl, ?_⟩) (by assumption) ?_; rotate_left; (focus (intro w hSw; (try dsimp only at hSw); go_simp; (try with_reducible rfl); done)); (try simp only [Act.put, List.getElem_toArray, List.getElem_cons_succ, List.getElem_cons_zero, List.setIfInBounds_toArray, List.set_cons_zero, List.set_cons_succ])
    refine wpAnyH_ready (rs := [3]) (by kernel_rfl) (by simp) ?_
    refine AllReadyH.cons rfl (fun K hK => ?_) AllReadyH.nil
    (try simp only [List.getElem_toArray, List.getElem_cons_succ, List.getElem_cons_zero])
    go_simp
    (with_reducible refine (rnum4 E _ (by omega)).mono ?_); rintro e we ⟨v2, rfl, hb, hv2⟩
    have hx := hx.below hb
    have Hb := Lib.hid (below_up hHeld0.2 hb); clear hb hHeld0
    refine hK.out _ _ (⟨HC.out _ Hb.out, Hb.out⟩) (fun hHeld => ?_)
    clear hK K
    (try simp only [Act.put, List.getElem_toArray, List.getElem_cons_succ, List.getElem_cons_zero, List.setIfInBounds_toArray, List.set_cons_zero, List.set_cons_succ])
    refine wpAnyH_ready (rs := [4]) (by kernel_rfl) (by simp) ?_
    refine AllReadyH.cons rfl (fun K hK => ?_) AllReadyH.nil
    (try simp only [List.getElem_toArray, List.getElem_cons_succ, List.getElem_cons_zero])
    go_simp
    (with_reducible refine (rcat _ _ _ _ _ hx hv2 (by simp [r1_len, numB_length])).mono ?_); rintro e wf ⟨x2, rfl, hb, hx2⟩
    have hx2 : BRd wf x2 (r2 k0 E) := brd_ownl hx2
    have Hb := Lib.hid (below_up Hb.out hb); clear hb
    refine hK.out _ _ (⟨HC.out _ Hb.out, Hb.out⟩) (fun hHeld => ?_)
    clear hK K
    (try simp only [Act.put, List.getElem_toArray, List.getElem_cons_succ, List.getElem_cons_zero, List.setIfInBounds_toArray, List.set_cons_zero, List.set_cons_succ])
    refine wpAnyH_ready (rs := [7]) (by kernel_rfl) (by simp) ?_
    refine AllReadyH.cons rfl (fun K hK => ?_) AllReadyH.nil
    (try simp only [List.getElem_toArray, List.getElem_cons_succ, List.getElem_cons_zero])
    go_simp
    (with_reducible refine (rnum4 Q _ (by omega)).mono ?_); rintro e wg ⟨v3, rfl, hb, hv3⟩
    have hx2 := hx2.below hb
    have Hb := Lib.hid (below_up Hb.out hb); clear hb
    refine hK.out _ _ (⟨HC.out _ Hb.out, Hb.out⟩) (fun hHeld => ?_)
    clear hK K
    (try simp only [Act.put, List.getElem_toArray, List.getElem_cons_succ, List.getElem_cons_zero, List.setIfInBounds_toArray, List.set_cons_zero, List.set_cons_succ])
    refine wpAnyH_ready (rs := [8]) (by kernel_rfl) (by simp) ?_
    refine AllReadyH.cons rfl (fun K hK => ?_) AllReadyH.nil
    (try simp only [List.getElem_toArray, List.getElem_cons_succ, List.getElem_cons_zero])
    go_simp
    (with_reducible refine (rcat _ _ _ _ _ hx2 hv3 (by simp [r2_len, numB_length])).mono ?_); rintro e wh ⟨x3, rfl, hb, hx3⟩
    have hx3 : BRd wh x3 (r3 k0 E Q) := brd_ownl hx3
    have Hb := Lib.hid (below_up Hb.out hb); clear hb
    refine hK.out _ _ (⟨HC.out _ Hb.out, Hb.out⟩) (fun hHeld => ?_)
    clear hK K
    (try simp only [Act.put, List.getElem_toArray, List.getElem_cons_succ, List.getElem_cons_zero, List.setIfInBounds_toArray, List.set_cons_zero, List.set_cons_succ])
    refine wpAnyH_take (i := 9) (v := ?_) rfl (by kernel_rfl) (by kernel_rfl) (by kernel_rfl) (fun _ _ _ h => h) (Or.inl ⟨by kernel_rfl, ?_⟩) (by assumption) ?_; rotate_left; (focus (intro w hSw; (try dsimp only at hSw); go_simp; (try with_reducible rfl); done)); (try simp only [Act.put, List.getElem_toArray, List.getElem_cons_succ, List.getElem_cons_zero, List.setIfInBounds_toArray, List.set_cons_zero, List.set_cons_succ])
    refine wpAnyH_done (by kernel_rfl) ?_ _
    go_wp2
    go_meet
    case rel => exact ⟨hx3, Hb.out⟩
  case rest =>
  obtain ⟨hx3, hbc⟩ := hcut
  obtain ⟨q0, q1, q2⟩ := HC.out _ hbc
  have H3 := Lib.hid (And.intro hx3 hbc); clear hx3 hbc
  go_wp2_with fail
  (with_reducible refine (rnum2 P _ (by omega)).mono ?_); rintro e w1 ⟨v4, rfl, hb, hv4⟩
  have H4 := Lib.hid (And.intro (H3.out.1.below hb) (And.intro hv4 (below_up H3.out.2 hb))); clear hb hv4 q0 q1 q2
  go_wp2_with fail
  (with_reducible refine (rcat _ _ _ _ _ H4.out.1 H4.out.2.1 (by simp [r3_len, numB_length])).mono ?_); rintro e w2 ⟨x4, rfl, hb, hx⟩
  have hx : BRd w2 x4 (r4 k0 E Q P) := brd_ownl hx
  have H5 := Lib.hid (And.intro hx (below_up H4.out.2.2 hb)); clear hb hx
  go_wp2_with fail
  (with_reducible refine (rnum1 t.length _ (by omega)).mono ?_); rintro e w3 ⟨v5, rfl, hb, hv5⟩
  have H6 := Lib.hid (And.intro (H5.out.1.below hb) (And.intro hv5 (below_up H5.out.2 hb))); clear hb hv5
  go_wp2_with fail
  (with_reducible refine (rcat _ _ _ _ _ H6.out.1 H6.out.2.1 (by simp [r4_len, numB_length])).mono ?_); rintro e w4 ⟨x5, rfl, hb, hx⟩
  have hx : BRd w4 x5 (r5 k0 E Q P t.length) := brd_ownl hx
  have H7 := Lib.hid (And.intro hx (below_up H6.out.2.2 hb)); clear hb hx
  go_wp2_with fail
  (with_reducible refine (rcat _ _ _ _ _ H7.out.1 (HV.out.below (below_up HG.out.2 H7.out.2)) (by simp [r5_len]; omega)).mono ?_); rintro e w5 ⟨x6, rfl, hb, hx⟩
  have hl6 := r6_len k0 E Q P t
  have hx : w5.ownsRow w4.heap.size 5 1 x6 (r6 k0 E Q P t).length (bv (r6 k0 E Q P t)) := hx
  rw [hl6] at hx
  have H8 := Lib.hid (And.intro hx (And.intro (below_up H7.out.2 hb) hb.size)); clear hb hx
  obtain ⟨L0, hL0⟩ : ∃ L, r6 k0 E Q P t = L := ⟨_, rfl⟩
  rw [hL0] at hl6 H8
  have HL0 := Lib.hid hL0; clear hL0
  obtain ⟨A6, c6, rfl, _, _, _, _⟩ := own_rd H8.out.1
  go_wp2_with fail
  go_loopw [9] (fun v9 W => ∃ (N : Nat) (L : List UInt8), slLen v9 = N ∧ N ≤ 252 ∧ 14 + t.length ≤ N ∧ L = L0 ++ List.replicate (N - (14 + t.length)) 0 ∧ W.ownsRow w4.heap.size 5 1 v9 N (bv L) ∧ w4.heap.size ≤ W.heap.size ∧ Below w0.heap.size w0 W) (fun v9 _ => 252 - slLen v9)
  case atStart => exact ⟨14 + t.length, L0, rfl, by omega, Nat.le_refl _, by simp, H8.out.1, H8.out.2.2, H8.out.2.1⟩
  obtain ⟨N, L, hN, hN2, hN3, hL, hown, hsz, hbel⟩ := hrel
  obtain ⟨A9, c9, rfl, hNc, _, _, _⟩ := own_rd hown
  have HR := Lib.hid (And.intro hL (And.intro hown (And.intro hsz hbel))); clear hL hown hbel hN hsz
  by_cases hlt : N < 252
  · have hlt2 : (N : Int) < 252 := by omega
    have hrs : N + 1 - (14 + t.length) = (N - (14 + t.length)) + 1 := by omega
    have HRS := Lib.hid hrs; clear hrs
    go_wp2_with (at_builtin; refine wpList_app rfl _ _ 24 rfl w4.heap.size 5 (.int .u8 0) 1 1 Try.underlying24 info_u8 rfl (by decide) (by decide) (.slice A9 N c9) N (bv L) rfl (some ⟨wr.heap.size, 0, none⟩) 1 1 (bv [0]) rfl (own_below HR.out.2.1 (below_alloc1 _ _)) rfl (rd_new _ _ _ _ rfl) (bv_one _) (by omega) (Nat.le_trans HR.out.2.2.1 (below_alloc1 _ _).size) ?_
                 intro A5 c5 w6 hown hgrow hat
                 have hb5 := below_grown (below_alloc HR.out.2.2.2 _) hgrow (fun k e => Nat.le_trans H7.out.2.size (own_base HR.out.2.1 k e))
                 rw [← bv_append] at hown
                 have H9 := Lib.hid (And.intro hown (And.intro (Nat.le_trans (Nat.le_trans HR.out.2.2.1 (below_alloc1 _ _).size) hgrow.size) hb5)); clear hown hb5 hgrow hat)
    exact ⟨⟨N + 1, L ++ [0], rfl, by omega, by omega, by rw [HRS.out, rep_succ, HR.out.1, List.append_assoc], H9.out.1, H9.out.2.1, H9.out.2.2⟩, by simp [slLen]; omega⟩
  · have hlt2 : ¬ (N : Int) < 252 := by omega
    have hN4 : N = 252 := by omega
    have hrs : N - (14 + t.length) = 238 - t.length := by omega
    have hL := HR.out.1
    rw [hrs] at hL
    have hown := HR.out.2.1
    have hbr := brd_ownl hown
    have hll : L.length = N := by have := hown.1; rw [bv_length] at this; omega
    have HX := Lib.hid (And.intro hbr (And.intro hll hN4))
    have HLL := Lib.hid hL; clear hL hown hbr hll hN4 hrs
    have hsum : ∀ W : World, BRd W (.slice A9 N c9) L → Calls Try.prog 50 #[.slice A9 N c9] W fun e w' => e = .returned (.int .u32 (Crc.crc L : Nat)) ∧ w' = W := fun W h => refsum' _ L W h (by have := HX.out.2; omega)
    have hcl := crc_lt L
    obtain ⟨C, hC⟩ : ∃ C, Crc.crc L = C := ⟨_, rfl⟩
    rw [hC] at hcl hsum
    have HC2 := Lib.hid hC; clear hC
    have kC : IntKind.i64.wrap (C : Int) = C := by rw [IntKind.wrap_i64]; omega
    have HS := Lib.hid hsum; clear hsum
    go_wp2_with fail
    (with_reducible refine (HS.out _ HX.out.1).mono ?_); rintro e w7 ⟨rfl, rfl⟩
    go_wp2_with fail
    (with_reducible refine (rnum4 C _ (by omega)).mono ?_); rintro e w8 ⟨v8, rfl, hb, hv8⟩
    have H9 := Lib.hid (And.intro (HX.out.1.below hb) (And.intro hv8 (below_up HR.out.2.2.2 hb))); clear hb hv8
    go_wp2_with fail
    (with_reducible refine (rcat _ _ _ _ _ H9.out.1 H9.out.2.1 (by have := HX.out.2; simp [numB_length]; omega)).mono ?_); rintro e w9 ⟨x9, rfl, hb, hx⟩
    have H10 := Lib.hid (And.intro (brd_ownl hx) (below_up HG.out.2 (below_up H9.out.2.2 hb))); clear hb hx
    go_wp2
    go_ret2
    exact ⟨_, rfl, by rw [HL0.out, ← HLL.out, HC2.out]; exact H10.out.1, H10.out.2⟩
theorem sector_ok (k : Int) (s : StS) (v : Value) (t : List UInt8) (w : World) (hv : BRd w v t) :
    Calls Try.prog 14 #[.int .i64 k, sv s, v] w fun e w' => ∃ x, e = .returned (.tuple #[x, .int .i64 (secE k s t.length)]) ∧ BRd w' x (if secE k s t.length = 0 then secB k s t else []) ∧ Below w.heap.size w w' := by
  by_cases hb : bad k s
  · have e : secE k s t.length = 4 := by unfold secE; rw [if_pos hb]
    rw [e, if_neg (by decide)]
    exact (sector_bad k s v w hb).mono fun e w' ⟨h1, h2⟩ => ⟨_, h1, brd_nil _, h2⟩
  · by_cases hn : 238 < t.length
    · have e : secE k s t.length = 5 := by unfold secE; rw [if_neg hb, if_pos hn]
      rw [e, if_neg (by decide)]
      obtain ⟨A, c, rfl, _, _, _⟩ := hv
      exact (sector_long k s A t.length c w hb hn).mono fun e w' ⟨h1, h2⟩ => ⟨_, h1, brd_nil _, h2⟩
    · have e : secE k s t.length = 0 := by unfold secE; rw [if_neg hb, if_neg hn]
      rw [e, if_pos rfl]
      have hbr := body_ref t hb (by omega)
      unfold secB
      rw [← hbr]
      have hb' := hb
      unfold bad at hb'
      obtain ⟨K, rfl⟩ := Int.eq_ofNat_of_zero_le (by omega : 0 ≤ k)
      obtain ⟨e0, q, p⟩ := s
      simp only at hb' ⊢
      obtain ⟨E, rfl⟩ := Int.eq_ofNat_of_zero_le (by omega : 0 ≤ e0)
      obtain ⟨Q, rfl⟩ := Int.eq_ofNat_of_zero_le (by omega : 0 ≤ q)
      obtain ⟨P, rfl⟩ := Int.eq_ofNat_of_zero_le (by omega : 0 ≤ p)
      simp only [Int.toNat_natCast]
      exact sector_yes K E Q P v t w hv (by omega) (by omega) (by omega) (by omega) (by omega)
end Go.Proofs.Ytjhhknkhgilecaa.Fm
