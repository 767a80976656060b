/- The walk over croftlaw12.SuperWrong. -/
import Derived.Test.YtjhhknkhgilecaaS3
namespace Go.Proofs.Ytjhhknkhgilecaa.Su
open Go.RowKit Lt Fm
set_option linter.unusedVariables false
set_option linter.unusedSimpArgs false
theorem fit_iff {k : Int} {s : StS} {t : List UInt8} (hb : ¬ bad k s) (ht : t.length ≤ 238) : sE (secB k s t) = if k = 1 ∧ s = StS.zero ∧ t.length = 2 ∧ (gOf t).chk = 0 then 0 else 16 := by
  obtain ⟨b1, b2, b3, b4⟩ := sec_back hb ht
  by_cases h : k = 1 ∧ s = StS.zero ∧ t.length = 2 ∧ (gOf t).chk = 0
  · rw [if_pos h]
    exact (s_yes ⟨b1, by omega, by rw [b3]; exact h.2.1, by rw [b4]; exact h.2.2.1, by rw [b4]; exact h.2.2.2⟩).2
  · rw [if_neg h]
    exact (s_no (fun hs => h ⟨by have := hs.2.1; omega, by have := hs.2.2.1; rw [b3] at this; exact this, by have := hs.2.2.2.1; rw [b4] at this; exact this, by have := hs.2.2.2.2; rw [b4] at this; exact this⟩)).2
/-- The four bounds, one by one. -/
theorem chk_cases (N1 N2 : Nat) : (GeS.chk ⟨(N1 : Nat), (N2 : Nat)⟩ = 4 ∧ (N1 < 6 ∨ (6 ≤ N1 ∧ 32 < N1) ∨ (6 ≤ N1 ∧ N1 ≤ 32 ∧ N2 < 4) ∨ (6 ≤ N1 ∧ N1 ≤ 32 ∧ 4 ≤ N2 ∧ 32 < N2))) ∨ (GeS.chk ⟨(N1 : Nat), (N2 : Nat)⟩ = 0 ∧ 6 ≤ N1 ∧ N1 ≤ 32 ∧ 4 ≤ N2 ∧ N2 ≤ 32) := by
  unfold GeS.chk
  simp only
  by_cases h : ((N1 : Nat) : Int) < 6 ∨ 32 < ((N1 : Nat) : Int) ∨ ((N2 : Nat) : Int) < 4 ∨ 32 < ((N2 : Nat) : Int)
  · rw [if_pos h]; exact .inl ⟨rfl, by omega⟩
  · rw [if_neg h]; exact .inr ⟨rfl, by omega⟩
set_option maxHeartbeats 8000000 in
set_option maxRecDepth 100000 in
theorem swrong_walk (k : Int) (s : StS) (vt : Value) (t : List UInt8) (w : World) (hvt : BRd w vt t) (htl : t.length ≤ 140737488351232) :
    Calls Try.prog 4 #[.int .i64 k, sv s, vt] w fun e w' => e = .returned (.bool true) ∧ Below w.heap.size w w' := by
  have HV := Lib.hid hvt
  obtain ⟨At, ct, rfl, _, _, _⟩ := hvt
  have hg := alloc_at (w := w) (.cells #[.int .i64 s.ep, .int .i64 s.sq, .int .i64 s.pos] 32) rfl
  have hb0 := below_alloc1 w (.cells #[.int .i64 s.ep, .int .i64 s.sq, .int .i64 s.pos] 32)
  have HG := Lib.hid (And.intro hg hb0); clear hg hb0
  go_enter Try.func4, Try.ntmps4
  go_wp2_with fail
  generalize (w.alloc _) = w0 at *
  refine (alive_ok _).mono ?_; rintro e w1 ⟨rfl, hb⟩
  obtain ⟨q0, q1, q2⟩ := cells3 (block_up HG.out.1 hb)
  have H1 := Lib.hid hb; clear hb
  have hsc := fun (W : World) (hb : Below w0.heap.size w0 W) => sector_ok k s _ t W (HV.out.below (below_up HG.out.2 hb))
  by_cases hbad : bad k s ∨ 238 < t.length
  · obtain ⟨E, hE, hE2⟩ : ∃ e, secE k s t.length = e ∧ (e != 0) = true := by
      unfold secE
      by_cases h : bad k s
      · rw [if_pos h]; exact ⟨4, rfl, by decide⟩
      · rw [if_neg h, if_pos (hbad.resolve_left h)]; exact ⟨5, rfl, by decide⟩
    simp only [hE] at hsc
    have HC := Lib.hid hsc; clear hsc hE hbad
    go_wp2_with fail
    (with_reducible refine (HC.out _ H1.out).mono ?_); rintro e w2 ⟨x, rfl, hx, hb⟩
    have H2 := Lib.hid (below_up H1.out hb); clear hx hb
    go_wp2
    go_ret
    exact ⟨rfl, below_up HG.out.2 H2.out⟩
  · have hnb : ¬ bad k s := fun h => hbad (.inl h)
    have htn : t.length ≤ 238 := by have : ¬ 238 < t.length := fun h => hbad (.inr h); omega
    have hE : secE k s t.length = 0 := by unfold secE; rw [if_neg hnb, if_neg (by omega)]
    simp only [hE, if_pos] at hsc
    have hfi := fit_iff hnb htn
    have hbl := secB_len k s t htn
    have HC := Lib.hid hsc; clear hsc hE hbad
    go_wp2_with fail
    (with_reducible refine (HC.out _ H1.out).mono ?_); rintro e w2 ⟨x, rfl, hx, hb⟩
    have hrd := sread_ok x _ w2 hx (by omega)
    obtain ⟨RE, hRE⟩ : ∃ e, sE (secB k s t) = e := ⟨_, rfl⟩
    obtain ⟨RG, hRG⟩ : ∃ e, sG (secB k s t) = e := ⟨_, rfl⟩
    rw [hRE, hRG] at hrd
    rw [hRE] at hfi
    have HFI := Lib.hid hfi; clear hfi
    obtain ⟨A2, c2, rfl, _, _, _⟩ := hx
    have H2 := Lib.hid (And.intro (below_up H1.out hb) hrd); clear hb hrd hRE hRG q0 q1 q2 hbl
    go_wp2_with fail
    (with_reducible refine H2.out.2.mono ?_); rintro e w3 ⟨rfl, hb⟩
    have hba := below_up (below_up H2.out.1 hb) (below_alloc1 w3 (.cells #[.int .i64 RG.seg, .int .i64 RG.siz] 23))
    have H3 := Lib.hid hba; clear hba hb
    go_upto_region 7 with (fail)
    generalize (w3.alloc _) = w4 at *
    obtain ⟨q0, q1, q2⟩ := cells3 (block_up HG.out.1 H3.out)
    have hne : ∀ W : World, (binOp .eql 32 (.agg #[.int .i64 s.ep, .int .i64 s.sq, .int .i64 s.pos]) (.agg #[.int .i64 0, .int .i64 0, .int .i64 0])).run Try.prog W = .ok (.bool (decide (s = StS.zero))) W := fun W => eqlS_d s StS.zero W
    have HL := Lib.hid htl
    have HB := Lib.hid (below_up HG.out.2 H3.out)
    have hfi := HFI.out; clear HFI
    by_cases hk : k = 1
    · have k1 : (k == 1) = true := by rw [beq_iff_eq]; exact hk
      by_cases hs : s = StS.zero
      · simp only [decide_eq_true hs] at hne
        by_cases h2 : t.length = 2
        · have k2 : (((t.length : Nat) : Int) == 2) = true := by rw [beq_iff_eq]; omega
          obtain ⟨g, o, rfl, hr, hgl⟩ := brd_cut HV.out (by intro e; rw [e] at h2; cases h2)
          have d0 := rd_at (hr.below HB.out) (i := 0) (by omega)
          have d1 := rd_at (hr.below HB.out) (i := 1) (by omega)
          rw [Nat.add_zero] at d0
          have b1 : (0 : Int) < t.length := by omega
          have b2 : (1 : Int) < t.length := by omega
          have hcc := chk_cases (t.getD 0 0).toNat (t.getD 1 0).toNat
          rw [show (GeS.mk ((t.getD 0 0).toNat : Nat) ((t.getD 1 0).toNat : Nat)) = gOf t from rfl] at hcc
          generalize (t.getD 0 0).toNat = N1 at *
          generalize (t.getD 1 0).toNat = N2 at *
          rcases hcc with ⟨hc, h⟩ | ⟨hc, h⟩
          · rw [if_neg (fun h => by have := h.2.2.2; rw [hc] at this; cases this)] at hfi
            subst hfi
            clear hk hs h2 hr hgl hc htl hnb htn
            rcases h with h | ⟨h1, h⟩ | ⟨h1, h2, h⟩ | ⟨h1, h2, h3, h⟩
            · have c1 : decide ((6 : Int) ≤ (N1 : Nat)) = false := decide_eq_false (by omega)
              go_wp2
              go_ret
              exact ⟨ret_bool (by first | rfl | simp), HB.out⟩
            · have c1 : decide ((6 : Int) ≤ (N1 : Nat)) = true := decide_eq_true (by omega)
              have c2 : decide (((N1 : Nat) : Int) ≤ 32) = false := decide_eq_false (by omega)
              go_wp2
              go_ret
              exact ⟨ret_bool (by first | rfl | simp), HB.out⟩
            · have c1 : decide ((6 : Int) ≤ (N1 : Nat)) = true := decide_eq_true (by omega)
              have c2 : decide (((N1 : Nat) : Int) ≤ 32) = true := decide_eq_true (by omega)
              have c3 : decide ((4 : Int) ≤ (N2 : Nat)) = false := decide_eq_false (by omega)
              go_wp2
              go_ret
              exact ⟨ret_bool (by first | rfl | simp), HB.out⟩
            · have c1 : decide ((6 : Int) ≤ (N1 : Nat)) = true := decide_eq_true (by omega)
              have c2 : decide (((N1 : Nat) : Int) ≤ 32) = true := decide_eq_true (by omega)
              have c3 : decide ((4 : Int) ≤ (N2 : Nat)) = true := decide_eq_true (by omega)
              have c4 : decide (((N2 : Nat) : Int) ≤ 32) = false := decide_eq_false (by omega)
              go_wp2
              go_ret
              exact ⟨ret_bool (by first | rfl | simp), HB.out⟩
          · rw [if_pos ⟨hk, hs, h2, hc⟩] at hfi
            subst hfi
            obtain ⟨h1, h4, h5, h6⟩ := h
            clear hk hs h2 hr hgl hc htl hnb htn
            have c1 : decide ((6 : Int) ≤ (N1 : Nat)) = true := decide_eq_true (by omega)
            have c2 : decide (((N1 : Nat) : Int) ≤ 32) = true := decide_eq_true (by omega)
            have c3 : decide ((4 : Int) ≤ (N2 : Nat)) = true := decide_eq_true (by omega)
            have c4 : decide (((N2 : Nat) : Int) ≤ 32) = true := decide_eq_true (by omega)
            go_wp2
            go_ret
            exact ⟨ret_bool (by first | rfl | simp), HB.out⟩
        · have k2 : (((t.length : Nat) : Int) == 2) = false := by rw [beq_eq_false_iff_ne]; omega
          rw [if_neg (fun h => h2 h.2.2.1)] at hfi
          subst hfi
          clear hk hs h2 htl hnb htn
          go_wp2
          go_ret
          exact ⟨ret_bool (by first | rfl | simp), HB.out⟩
      · simp only [decide_eq_false hs] at hne
        rw [if_neg (fun h => hs h.2.1)] at hfi
        subst hfi
        clear hk hs htl hnb htn
        go_wp2
        go_ret
        exact ⟨ret_bool (by first | rfl | simp), HB.out⟩
    · have k1 : (k == 1) = false := by rw [beq_eq_false_iff_ne]; exact hk
      rw [if_neg (fun h => hk h.1)] at hfi
      subst hfi
      clear hk htl hnb htn
      go_wp2
      go_ret
      exact ⟨ret_bool (by first | rfl | simp), HB.out⟩
end Go.Proofs.Ytjhhknkhgilecaa.Su
