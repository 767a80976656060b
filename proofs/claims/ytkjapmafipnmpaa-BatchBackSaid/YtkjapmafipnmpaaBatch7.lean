/- The walk over BatchBack. -/
import Derived.Test.YtkjapmafipnmpaaBatch6
import Derived.Deep.DeepCutAuto
namespace Go.Proofs.Ytkjapmafipnmpaa.Bt
open Go.RowKit Lt
set_option linter.unusedVariables false
set_option linter.unusedSimpArgs false
theorem brd_take {w : World} {A : Option Addr} {l : List UInt8} {N c : Nat} (hr : Rd w A (bv l)) (hN : N ≤ l.length) (hc : N ≤ c) : BRd w (.slice A N c) (l.take N) := by
  have hl : (l.take N).length = N := by simp; omega
  have h2 : Rd w A (bv (l.take N)) := by rw [← bv_take]; exact hr.take N
  exact ⟨A, c, by rw [hl], by rw [hl]; exact hc, h2, fun ad e h0 => Rd.brd 0 h2 h0 ad e⟩
theorem sameS_refl (n : Int) (b : Bool) (l : List EntS) : sameS n n b b l l = true := by rw [sameS_l]; exact decide_eq_true rfl
theorem rdVal_put {n : Int} {b : Bool} {l : List EntS} (h : chkSum n l = 0) : rdVal (sumB n b l) = (n, b, l, 0) := by
  obtain ⟨h1, h2, h3, h4⟩ := rd_put (last := b) h
  unfold rdVal; rw [if_pos h1, h2, h3, h4]
theorem rdVal_bad {b : List UInt8} (h : (rdAll b).good = false) : rdVal b = (0, false, [], 16) := by unfold rdVal; rw [if_neg (by simp [h])]
theorem fine_of {e : EntS} (h : e.odd = false) : e.fine := by have := EntS.odd_false h; exact ⟨⟨by omega, by omega⟩, by omega, by omega⟩
theorem cut_of (z : Int) (M : Nat) (hM : 0 < M) : ∃ (r : Int) (c : Nat), z.tmod M = r ∧ -(M : Int) < r ∧ r < M ∧ (r + M) % M = (c : Int) ∧ (r + M).tmod M = (c : Int) ∧ c < M := by
  have h1 := Int.tmod_lt_of_pos z (by omega : (0 : Int) < M)
  have h2 : -(M : Int) < z.tmod M := by
    have h := Int.tmod_lt_of_pos (-z) (by omega : (0 : Int) < M)
    rw [Int.neg_tmod] at h
    omega
  have h3 := Int.emod_nonneg (z.tmod M + M) (by omega : (M : Int) ≠ 0)
  have h4 := Int.emod_lt_of_pos (z.tmod M + M) (by omega : (0 : Int) < M)
  obtain ⟨c, hc⟩ := Int.eq_ofNat_of_zero_le h3
  exact ⟨_, c, rfl, h2, h1, hc, by rw [Int.tmod_eq_emod_of_nonneg (by omega)]; exact hc, by omega⟩
set_option maxHeartbeats 8000000 in
set_option maxRecDepth 100000 in
theorem back_walk (n1 : Int) (b1 : Bool) (v1 : Value) (l1 : List EntS) (vb : Value) (b : List UInt8) (cut : Int) (w : World) (h1 : ERd w v1 l1) (hl1 : l1.length ≤ 8796093022207) (hfine : ∀ e ∈ l1, e.fine) (hv : BRd w vb b) (hb : b.length ≤ 140737488351232) :
    Calls Try.prog 9 #[.agg #[.int .i64 n1, .bool b1, v1], vb, .int .i64 cut] w fun e w' => e = .returned (.bool true) ∧ Below w.heap.size w w' := by
  have H := Lib.hid (And.intro h1 (And.intro hv hfine)); clear hfine
  obtain ⟨A1, c1, rfl, _, _⟩ := h1
  obtain ⟨Ab, cb, rfl, _, _, _⟩ := hv
  go_enter Try.func9, Try.ntmps9
  go_wp2_with fail
  have hg := alloc_at (w := w) (.cells #[.int .i64 n1, .bool b1, .slice A1 l1.length c1] 73) rfl
  have hbel := below_alloc1 w (.cells #[.int .i64 n1, .bool b1, .slice A1 l1.length c1] 73)
  generalize (w.alloc _) = w2 at *
  have HW := Lib.hid (And.intro hg hbel); clear hg hbel
  refine (alive_ok _).mono ?_; rintro e w3 ⟨rfl, hb3⟩
  obtain ⟨q0, q1, q2⟩ := cells3 (block_up HW.out.1 hb3)
  have H3 := Lib.hid hb3; clear hb3
  have hput := put_any n1 b1 (.slice A1 l1.length c1) l1 w3 (H.out.1.below (below_up HW.out.2 H3.out)) (by omega) H.out.2.2
  obtain ⟨c, hc⟩ : ∃ c, chkSum n1 l1 = c := ⟨_, rfl⟩
  rw [hc] at hput
  have HC := Lib.hid (And.intro hc hput); clear hc hput
  go_upto_if 25 with (go_at_call 38; refine HC.out.2.mono ?_; rintro e w4 ⟨x, rfl, hx, hb4⟩
                      have H4 := Lib.hid (And.intro hx (below_up H3.out hb4)); clear hx hb4 q0 q1 q2)
  go_cut [] (fun wx => Below w2.heap.size w2 wx)
  case first =>
    by_cases hc : c = 0
    · subst hc
      have hx := H4.out.1
      rw [if_pos rfl] at hx
      obtain ⟨A6, c6, rfl, hc6, hrd6, _⟩ := id hx
      have hM := sumB_len n1 b1 l1
      have hrv : rdVal (sumB n1 b1 l1) = (n1, b1, l1, 0) := rdVal_put HC.out.1
      have hcutv := fun (cc : Nat) (h : cc < (sumB n1 b1 l1).length) => rdVal_bad (rd_cut (last := b1) HC.out.1 cc h)
      have hread := read_ok _ _ w4 hx (by omega)
      rw [hrv] at hread
      generalize sumB n1 b1 l1 = SB at *
      obtain ⟨r, cc, e1, e2, e3, e4, e5, e6⟩ := cut_of cut SB.length (by omega)
      have hbad := hcutv cc e6
      have p0 : ¬ SB.length = 0 := by omega
      have p0' : ((SB.length : Int) == 0) = false := by rw [beq_eq_false_iff_ne]; omega
      have p1 : 0 < SB.length := by omega
      have p2 : SB.length ≤ 17592186044417 := by omega
      have p3 : cc ≤ c6 := by omega
      have p4 : cc ≤ SB.length := by omega
      have HX := Lib.hid (And.intro hread (And.intro hbad hrd6)); clear hread hbad hrd6 hcutv hx hrv hM e6
      go_wp2_with fail
      refine HX.out.1.mono ?_; rintro e w7 ⟨vs, rfl, hvs, hb7⟩
      have hb7' := below_up H4.out.2 hb7
      have hs7 := alloc_at (w := w7) (.cells #[.int .i64 n1, .bool b1, vs] 73) rfl
      have ha7 := below_alloc1 w7 (.cells #[.int .i64 n1, .bool b1, vs] 73)
      have hrd7 := (brd_take HX.out.2.2 p4 p3).below (below_up hb7 ha7)
      have H7 := Lib.hid (And.intro hs7 (And.intro (hvs.below ha7) (And.intro (below_up hb7' ha7) hrd7))); clear hs7 hvs hb7' hrd7 ha7 hb7
      obtain ⟨Av, cv, rfl, _, _⟩ := id H7.out.2.1
      obtain ⟨y0, y1, y2⟩ := cells3 H7.out.1
      have hrdb := read_ok _ _ _ H7.out.2.2.2 (by have := List.length_take_le cc SB; omega)
      rw [HX.out.2.1] at hrdb
      have HRB := Lib.hid hrdb; clear hrdb
      have hg7 := block_up HW.out.1 H7.out.2.2.1
      have HG7 := Lib.hid hg7; clear hg7
      go_wp2_with (first
        | (go_at_call 43; refine HRB.out.mono ?_; rintro e w8 ⟨vs8, rfl, hvs8, hb8⟩
           obtain ⟨A8, k8, hq8, _, _⟩ := id hvs8; rw [List.length_nil] at hq8; subst hq8
           have hba := below_up hb8 (below_alloc1 w8 (.cells #[.int .i64 0, .bool false, .slice A8 0 k8] 73))
           obtain ⟨q0, q1, q2⟩ := cells3 (block_up HG7.out hba)
           obtain ⟨y0, y1, y2⟩ := cells3 (block_up H7.out.1 hba)
           have HY := Lib.hid (And.intro ((H7.out.2.1).below hba) (And.intro (H.out.1.below (below_up (below_up HW.out.2 H7.out.2.2.1) hba)) (below_up H7.out.2.2.1 hba))); clear hvs8 hb8 hba)
        | (go_at_call 42; refine (lsame_ok n1 n1 b1 b1 _ _ l1 l1 _ HY.out.2.1 HY.out.1 (by omega) (by omega)).mono ?_; rintro e w9 ⟨rfl, hb9⟩; rw [sameS_refl]
           have H9 := Lib.hid (below_up HY.out.2.2 hb9); clear hb9))
      go_meet
      case rel => exact H9.out
    · have e1 : (c == 0) = false := by simpa using hc
      clear hc
      go_wp2
      go_meet
      case rel => exact H4.out.2
  case rest =>
  obtain ⟨wd, hwd⟩ : ∃ x, x = wc := ⟨_, rfl⟩
  rw [← hwd] at hcut ⊢
  clear hwd
  have hrb := read_ok _ b wd (H.out.2.1.below (below_up HW.out.2 hcut)) (by omega)
  have HD := Lib.hid hcut; clear hcut
  cases hgood : (rdAll b).good with
  | false =>
    rw [rdVal_bad hgood] at hrb
    have HRB := Lib.hid hrb; clear hrb hgood
    go_wp2_with (first
      | (go_at_call 43; refine HRB.out.mono ?_; rintro e w8 ⟨vs8, rfl, hvs8, hb8⟩
         obtain ⟨A8, k8, hq8, _, _⟩ := id hvs8; rw [List.length_nil] at hq8; subst hq8
         have hba := below_alloc1 w8 (.cells #[.int .i64 0, .bool false, .slice A8 0 k8] 73)
         have HY := Lib.hid (And.intro (hvs8.below hba) (below_up (below_up HD.out hb8) hba)); clear hvs8 hb8 hba)
      | (go_at_call 42; refine (lsame_ok 0 0 false false _ _ [] [] _ HY.out.1 (srd_nil _ _ _) (by decide) (by decide)).mono ?_; rintro e w9 ⟨rfl, hb9⟩; rw [sameS_refl]
         have H9 := Lib.hid (below_up HW.out.2 (below_up HY.out.2 hb9)); clear hb9))
    go_ret
    exact ⟨rfl, H9.out⟩
  | true =>
    obtain ⟨g1, g2⟩ := rd_good hgood
    unfold rdVal at hrb
    rw [if_pos hgood] at hrb
    generalize (rdAll b).n = N at *
    generalize decide ((rdAll b).la = 1) = L at *
    generalize (rdAll b).l = el at *
    obtain ⟨k1, k2, k3, k4⟩ := chk_zero g1
    have hput := fun (v : Value) (W : World) (h : ERd W v el) => put_any N L v el W h (by omega) (fun e he => fine_of (k4 e he))
    simp only [if_pos g1, g1, g2] at hput
    have HRB := Lib.hid (And.intro hrb hput); clear hrb hgood hput g1 g2 k1 k2 k3 k4
    go_wp2_with (first
      | (go_at_call 43; refine HRB.out.1.mono ?_; rintro e w8 ⟨vs8, rfl, hvs8, hb8⟩
         obtain ⟨A8, k8, rfl, _, _⟩ := id hvs8
         have hba := below_alloc1 w8 (.cells #[.int .i64 N, .bool L, .slice A8 el.length k8] 73)
         have HY := Lib.hid (And.intro (hvs8.below hba) (below_up (below_up HD.out hb8) hba)); clear hvs8 hb8 hba)
      | (go_at_call 38; refine (HRB.out.2 _ _ HY.out.1).mono ?_; rintro e w9 ⟨y, rfl, hy, hb9⟩
         have hcy := conv_rd (P := Try.prog) hy 40 5 9 Try.underlying40 Try.underlying5 Try.underlying9
         have hcb := conv_rd (P := Try.prog) (H.out.2.1.below (below_up HW.out.2 (below_up HY.out.2 hb9))) 40 5 9 Try.underlying40 Try.underlying5 Try.underlying9
         have H9 := Lib.hid (below_up HW.out.2 (below_up HY.out.2 hb9)); clear hb9 hy))
    go_ret
    exact ⟨ret_bool (by simp), H9.out⟩
end Go.Proofs.Ytkjapmafipnmpaa.Bt
