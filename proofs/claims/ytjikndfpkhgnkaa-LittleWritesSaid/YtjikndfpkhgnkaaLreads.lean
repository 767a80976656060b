/- The walk over LittleReads. -/
import Derived.Test.YtjikndfpkhgnkaaFields
import Derived.Deep.DeepCutAuto
import Derived.Deep.RegionWith
import Derived.Deep.RegionHeld3
namespace Go.Proofs.Ytjikndfpkhgnkaa.Lt
open Go.RowKit
set_option linter.unusedVariables false
set_option linter.unusedSimpArgs false
def rS (bad : Bool) (l : List UInt8) : InS := ⟨true, if bad then 16 else 0, l⟩
theorem brd_take {w : World} {A : Option Addr} {l : List UInt8} {N c : Nat} (hr : Rd w A (bv l)) (hN : N ≤ l.length) (hc : N ≤ c) : BRd w (.slice A N c) (l.take N) := by
  have hl : (l.take N).length = N := by simp; omega
  have h2 : Rd w A (bv (l.take N)) := by rw [← bv_take]; exact hr.take N
  exact ⟨A, c, by rw [hl], by rw [hl]; exact hc, h2, fun ad e h0 => Rd.brd 0 h2 h0 ad e⟩
theorem brd_drop {w : World} {A : Option Addr} {l : List UInt8} {N c : Nat} (hr : Rd w A (bv l)) (hc : l.length - N ≤ c) : BRd w (.slice (A.map fun x => x.add N) (l.length - N) c) (l.drop N) := by
  have hl : (l.drop N).length = l.length - N := by simp
  have h2 : Rd w (A.map fun x => x.add N) (bv (l.drop N)) := by rw [← bv_drop]; exact rd_add hr N
  exact ⟨_, c, by rw [hl], by rw [hl]; exact hc, h2, fun ad e h0 => Rd.brd 0 h2 h0 ad e⟩
theorem rS_step (bad : Bool) (l : List UInt8) (N : Nat) (h : bad = true → l = []) :
    (rS bad l).got N = (if (bad || decide (l.length < N)) = true then [] else l.take N) ∧ (rS bad l).next N = rS (bad || decide (l.length < N)) (if (bad || decide (l.length < N)) = true then [] else l.drop N) := by
  cases bad with
  | true =>
    have := h rfl
    subst this
    exact ⟨rfl, rfl⟩
  | false =>
    have hid : ¬ (rS false l).idle := by unfold InS.idle rS; simp
    unfold InS.got InS.next
    by_cases hn : l.length < N
    · have e : decide (l.length < N) = true := decide_eq_true hn
      rw [e, if_pos (.inr hn), if_neg hid, if_pos (show (rS false l).b.length < N from hn)]
      exact ⟨rfl, rfl⟩
    · have e : decide (l.length < N) = false := decide_eq_false hn
      rw [e, if_neg (fun h => h.elim hid hn), if_neg hid, if_neg (show ¬ (rS false l).b.length < N from hn)]
      exact ⟨rfl, rfl⟩
set_option maxHeartbeats 4000000 in
set_option maxRecDepth 100000 in
theorem reads_walk (vb vl : Value) (b : List UInt8) (F : List FieldS) (w : World) (hb : BRd w vb b) (hbl : b.length ≤ 140737488351232) (hF : FieldsAt w vl F) :
    Calls Try.prog 11 #[vb, vl] w fun e w' => e = .returned (.bool true) ∧ Below w.heap.size w w' := by
  have hB := Lib.hid (And.intro hb hF)
  obtain ⟨A0, c0, rfl, _, _, _⟩ := hb
  obtain ⟨A1, c1, rfl, hFl, _, _⟩ := hF
  go_enter Try.func11, Try.ntmps11
  go_wp2_with fail
  refine (alive1_ok w).mono ?_; rintro e w1 ⟨rfl, hb1⟩
  have H1 := Lib.hid hb1; clear hb1
  go_wp2_with fail
  refine (open_ok _ b w1 (hB.out.1.below H1.out) (by omega)).mono ?_; rintro e w2 ⟨p, v2, rfl, hp2, hb2, ha2⟩
  have H2 := Lib.hid (And.intro (below_up H1.out hb2) ha2); clear ha2
  have hpw : w.heap.size ≤ p := by have := H1.out.size; omega
  clear hp2 hb2
  go_wp2_with fail
  go_loopw [6, 7, 8] (fun vleft vbad vi W => ∃ (k : Nat) (lft : List UInt8) (bad : Bool) (v : Value), vi = .int .i64 k ∧ k ≤ F.length ∧ k ≤ 30 ∧ vbad = .bool bad ∧ BRd w vleft lft ∧ lft.length ≤ 140737488351232 ∧ (bad = true → lft = []) ∧
    InAt W p v (rS bad lft) ∧ Below w.heap.size w W) (fun _ _ vi _ => 30 - (intOf vi).toNat)
  case atStart => exact ⟨0, b, false, v2, rfl, by omega, by omega, rfl, hB.out.1, hbl, by simp, H2.out.2, H2.out.1⟩
  obtain ⟨k, lft, bad, v, rfl, hk, hk30, rfl, hlf, hll, hbad, hat, hbel⟩ := hrel
  obtain ⟨Al, cl, rfl, hlc, hlr, hls⟩ := hlf
  by_cases hlt : k < F.length ∧ k < 30
  · have d1 : decide ((k : Int) < F.length) = true := decide_eq_true (by omega)
    have d2 : decide ((k : Int) < 30) = true := decide_eq_true (by omega)
    obtain ⟨g, o, rfl, hfine, f0, f1, f2, f3⟩ := hB.out.2.get hlt.1
    have g0 := cell_up f0 hbel
    have g1 := cell_up f1 hbel
    have g2 := cell_up f2 hbel
    have g3 := cell_up f3 hbel
    generalize F[k] = f at *
    obtain ⟨⟨a1, a2⟩, ⟨a3, a4⟩, ⟨a5, a6⟩, a7⟩ := hfine
    have H := Lib.hid (And.intro (And.intro hlr hls) (And.intro hbad (And.intro hat hbel))); clear hlr hls hbad hat hbel f0 f1 f2 f3
    go_upto_region 9 with (fail)
    have hbf := below_alloc1 wr (.cells #[.int .i64 f.kind, .int .i64 f.n, .int .i64 f.size, .string f.s] 52)
    have q := alloc_at (.cells #[.int .i64 f.kind, .int .i64 f.n, .int .i64 f.size, .string f.s] 52) (rfl : wr.heap.size = wr.heap.size)
    have q0 : (wr.alloc (.cells #[.int .i64 f.kind, .int .i64 f.n, .int .i64 f.size, .string f.s] 52)).cell? ⟨wr.heap.size, 0, none⟩ = some (.int .i64 f.kind) := cell_block q 0
    have q1 : (wr.alloc (.cells #[.int .i64 f.kind, .int .i64 f.n, .int .i64 f.size, .string f.s] 52)).cell? ⟨wr.heap.size, 1, none⟩ = some (.int .i64 f.n) := cell_block q 1
    have q2 : (wr.alloc (.cells #[.int .i64 f.kind, .int .i64 f.n, .int .i64 f.size, .string f.s] 52)).cell? ⟨wr.heap.size, 2, none⟩ = some (.int .i64 f.size) := cell_block q 2
    have q3 : (wr.alloc (.cells #[.int .i64 f.kind, .int .i64 f.n, .int .i64 f.size, .string f.s] 52)).cell? ⟨wr.heap.size, 3, none⟩ = some (.string f.s) := cell_block q 3
    clear q g0 g1 g2 g3
    generalize (wr.alloc (.cells #[.int .i64 f.kind, .int .i64 f.n, .int .i64 f.size, .string f.s] 52)) = wf at *
    obtain ⟨⟨hlr, hls⟩, hbad, hat, hbel⟩ := H.out
    have hq : w.heap.size ≤ wr.heap.size := hbel.size
    have hat' := hat.same hbf
    have hbel' := below_up hbel hbf
    clear hat hbel hbf H
    generalize wr.heap.size = Q at *
    have hS2 := sz_le f.size
    have hcase : f.size < 1 ∧ sz f.size = 1 ∨ 6 < f.size ∧ sz f.size = 6 ∨ f.size = (sz f.size : Nat) ∧ 1 ≤ sz f.size := by unfold sz; (repeat' split) <;> omega
    generalize hSS : sz f.size = S at *
    have HSZ := Lib.hid hSS; clear hSS
    obtain ⟨N, hN⟩ : ∃ N : Nat, N = if f.kind % 3 = 0 then S else f.size.toNat := ⟨_, rfl⟩
    have hNb : N ≤ 9223372036854775807 := by rw [hN]; split <;> omega
    obtain ⟨B, hBd⟩ : ∃ B : Bool, B = (bad || decide (lft.length < N)) := ⟨_, rfl⟩
    have HBD := Lib.hid hBd; clear hBd
    have HI := Lib.hid (And.intro (And.intro hlr hls) (And.intro hbad (And.intro hat' hbel'))); clear hlr hls hbad hat' hbel'
    have HC := Lib.hid hcase; clear hcase
    have HN := Lib.hid hN; clear hN
    go_cut [10] (fun v10 wx => wx = wf ∧ v10 = .int .i64 (S : Nat))
    case first =>
      rcases HC.out with ⟨c, c'⟩ | ⟨c, c'⟩ | ⟨c, c'⟩
      · go_wp2
        go_meet
        case rel => exact ⟨rfl, by rw [c']; rfl⟩
      · go_wp2
        go_meet
        case rel => exact ⟨rfl, by rw [c']; rfl⟩
      · rw [c] at q2
        go_wp2
        go_meet
        case rel => exact ⟨rfl, rfl⟩
    case rest =>
    obtain ⟨hw, rfl⟩ := hcut
    replace hw := hw.symm; subst hw
    go_wp2_with fail
    refine (kind_ok f.kind f.n f.size f.s wf a1 a2).mono ?_; rintro e w3 ⟨rfl, hb3⟩
    have r0 := cell_up q0 hb3
    have r1 := cell_up q1 hb3
    have r2 := cell_up q2 hb3
    have r3 := cell_up q3 hb3
    have HJ := Lib.hid (And.intro (HI.out.2.2.1.same hb3) (below_up HI.out.2.2.2 hb3))
    clear hb3 q0 q1 q2 q3
    go_upto_if 37 with (fail)
    go_cut [10] (fun v10 wx => wx = w3 ∧ v10 = .int .i64 (N : Nat))
    case first =>
      by_cases hk0 : f.kind % 3 = 0
      · have hNN := HN.out
        rw [if_pos hk0] at hNN
        have d : (f.kind % 3 != 0) = false := by rw [hk0]; rfl
        go_wp2
        go_meet
        case rel => exact ⟨rfl, by rw [hNN]⟩
      · have hNN := HN.out
        rw [if_neg hk0] at hNN
        have d : (f.kind % 3 != 0) = true := by simpa using hk0
        by_cases hs0 : f.size < 0
        · have e0 : f.size.toNat = 0 := by omega
          go_wp2
          go_meet
          case rel => exact ⟨rfl, by rw [hNN, e0]; rfl⟩
        · obtain ⟨m, hm⟩ := Int.eq_ofNat_of_zero_le (by omega : 0 ≤ f.size)
          rw [hm] at r2
          go_wp2
          go_meet
          case rel => exact ⟨rfl, by rw [hNN, hm]; simp⟩
    case rest =>
    obtain ⟨hw, rfl⟩ := hcut
    replace hw := hw.symm; subst hw
    go_upto_region 12 with (fail)
    go_cut [7] (fun v7 wx => wx = w3 ∧ v7 = .bool B)
    case first =>
      have hBB := HBD.out
      cases bad with
      | true =>
        go_wp2
        go_meet
        case rel => exact ⟨rfl, by rw [hBB]; rfl⟩
      | false =>
        go_wp2
        go_meet
        case rel => exact ⟨rfl, by rw [hBB]; rfl⟩
    case rest =>
    obtain ⟨hw, rfl⟩ := hcut
    replace hw := hw.symm; subst hw
    obtain ⟨part, hpart⟩ : ∃ part : List UInt8, part = if B then [] else lft.take N := ⟨_, rfl⟩
    obtain ⟨lft', hlft'⟩ : ∃ lft' : List UInt8, lft' = if B then [] else lft.drop N := ⟨_, rfl⟩
    have HP := Lib.hid (And.intro hpart hlft'); clear hpart hlft'
    go_upto_if 50 with (fail)
    go_cut [6, 7, 11] (fun v6 v7 v11 wx => v7 = .bool B ∧ BRd w v6 lft' ∧ (∀ W, Below w.heap.size w W → BRd W v11 part) ∧ Below w3.heap.size w3 wx)
    case first =>
      have hPP := HP.out
      cases B with
      | true =>
        go_wp2
        go_meet
        case rel =>
          rw [hPP.1, hPP.2]
          exact ⟨rfl, brd_nil w, fun W _ => ⟨_, 0, rfl, Nat.le_refl _, Rd.nil _ _, fun _ _ h => absurd rfl h⟩, below_alloc1 _ _⟩
      | false =>
        have hNl : N ≤ lft.length := by
          have := HBD.out
          cases bad <;> simp at this
          omega
        have e1 : part = lft.take N := hPP.1
        have e2 : lft' = lft.drop N := hPP.2
        have hlr := HI.out.1.1
        have HE := Lib.hid (And.intro hlr (And.intro e1 e2)); clear hlr e1 e2 hPP
        go_wp2_with fail
        go_quiet (fail)
        go_wp2
        all_goals go_meet
        all_goals
          obtain ⟨hr, e1, e2⟩ := HE.out
          rw [e1, e2]
        · refine ⟨rfl, ?_, fun W hW => (brd_take hr hNl (Nat.le_refl _)).below hW, (below_alloc1 _ _).trans (below_drewN _ |>.mono (by simp))⟩
          have hz : lft.drop N = [] := List.drop_of_length_le (by omega)
          have hz2 : lft.length - N = 0 := by omega
          rw [hz, hz2]
          exact ⟨_, 0, rfl, Nat.le_refl _, Rd.nil _ _, fun _ _ h => absurd rfl h⟩
        · exact ⟨rfl, brd_drop hr (by omega), fun W hW => (brd_take hr hNl (by omega)).below hW, (below_alloc1 _ _).trans (below_drewN _ |>.mono (by simp))⟩
    case rest =>
    obtain ⟨rfl, hl6, hp11, hb4⟩ := hcut
    obtain ⟨A11, c11, rfl, _, _, _⟩ := hp11 w (Below.refl _ _)
    have hl6' := hl6
    obtain ⟨A6, c6, rfl, hl6c, _, _⟩ := hl6'
    have s0 := cell_up r0 hb4
    have s1 := cell_up r1 hb4
    have s2 := cell_up r2 hb4
    have s3 := cell_up r3 hb4
    have hat4 := HJ.out.1.same hb4
    have hbel4 := below_up HJ.out.2 hb4
    have hstep := rS_step bad lft N HI.out.2.1
    rw [← HBD.out, ← HP.out.1, ← HP.out.2] at hstep
    have hB' : B = true → lft' = [] := fun h => by rw [HP.out.2, if_pos h]
    have hl' : lft'.length ≤ 140737488351232 := by
      have := HP.out.2
      rw [this]; split
      · simp
      · simp; omega
    have HK := Lib.hid (And.intro hl6 (And.intro hp11 (And.intro hat4 (And.intro hbel4 (And.intro hstep hB'))))); clear hl6 hp11 hb4 hat4 hbel4 hstep hB' r0 r1 r2 r3
    go_wp2_with fail
    refine (kind_ok f.kind f.n f.size f.s wc a1 a2).mono ?_; rintro e w5 ⟨rfl, hb5⟩
    have z0 := cell_up s0 hb5
    have z1 := cell_up s1 hb5
    have z2 := cell_up s2 hb5
    have z3 := cell_up s3 hb5
    have HL := Lib.hid (And.intro (HK.out.2.2.1.same hb5) (below_up HK.out.2.2.2.1 hb5)); clear hb5 s0 s1 s2 s3
    go_upto_if 59 with (fail)
    go_cut [] (fun wx => (∃ v, InAt wx p v (rS B lft')) ∧ Below w.heap.size w wx)
    case first =>
     by_cases hk0 : f.kind % 3 = 0
     · have d : (f.kind % 3 == 0) = true := by rw [hk0]; rfl
       have hNN := HN.out
       rw [if_pos hk0] at hNN
       have HNN := Lib.hid hNN; clear hNN
       go_wp2_with fail
       refine (innum_ok p v _ f.size w5 HL.out.1 (by show lft.length ≤ _; omega)).mono ?_; rintro e w6 ⟨rfl, ht⟩
       rw [HSZ.out, ← HNN.out, HK.out.2.2.2.2.1.1]
       rw [HSZ.out, ← HNN.out, HK.out.2.2.2.2.1.2] at ht
       have hb6 := InTo.below hpw HL.out.2 ht
       obtain ⟨v6, ha6, _⟩ := ht
       have hp6 := HK.out.2.1 w6 hb6
       have hl7 : part.length ≤ 7 := by
         have h1 := HP.out.1
         have h2 := HNN.out
         rw [h1]; split
         · simp
         · simp; omega
       have HM := Lib.hid (And.intro ha6 (And.intro hb6 hp6)); clear ha6 hb6 hp6 z0 z1 z2 z3
       go_wp2_with fail
       refine (refget_ok _ part w6 HM.out.2.2 hl7).mono ?_; rintro e w7 ⟨rfl, rfl⟩
       go_wp2_with fail
       go_meet
       case rel => exact ⟨⟨v6, HM.out.1⟩, HM.out.2.1⟩
     · have d : (f.kind % 3 == 0) = false := by simpa using hk0
       have hNN := HN.out
       rw [if_neg hk0] at hNN
       have HNN := Lib.hid hNN; clear hNN
       have HD := Lib.hid (And.intro (HL.out.1.same below_drew1) (below_up HL.out.2 below_drew1))
       have hc5 := conv_rd (P := Try.prog) (HK.out.2.1 _ HD.out.2) 49 5 9 Try.underlying49 Try.underlying5 Try.underlying9
       have hgot := HK.out.2.2.2.2.1.1
       have hnext := HK.out.2.2.2.2.1.2
       rw [HNN.out] at hgot hnext
       have HG := Lib.hid (And.intro hgot hnext); clear hgot hnext
       go_wp2_with fail
       go_region_with (
         go_at_call 44
         refine (intext_ok p v _ f.size _ HD.out.1 a6 (by show lft.length ≤ _; omega)).mono ?_
         rintro e w6 ⟨rfl, ht⟩
         rw [HG.out.1]
         rw [HG.out.2] at ht
         have hb6 := InTo.below hpw HD.out.2 ht
         have hc6 := conv_rd (P := Try.prog) (HK.out.2.1 _ hb6) 49 5 9 Try.underlying49 Try.underlying5 Try.underlying9
         have HM := Lib.hid (And.intro ht hb6)
         clear ht hb6)
       all_goals
         go_wp2_with fail
         go_meet
         case rel =>
           obtain ⟨⟨v6, ha6, _⟩, hb6⟩ := HM.out
           exact ⟨⟨v6, ha6⟩, hb6⟩
    case rest =>
    obtain ⟨⟨v8, ha8⟩, hb8⟩ := hcut
    have hlen : ((rS B lft').b.length : Int) = lft'.length := rfl
    have htell : (rS B lft').tells = if B then 16 else 0 := by cases B <;> rfl
    have HR := Lib.hid (And.intro ha8 (And.intro hb8 (And.intro hlen htell))); clear ha8 hb8 hlen htell
    go_wp2_with fail
    refine (left_ok p v8 _ _ HR.out.1).mono ?_; rintro e w9 ⟨rfl, rfl⟩
    rw [HR.out.2.2.1]
    go_wp2_with fail
    cases B with
    | true =>
      refine (err_ok p v8 _ _ HR.out.1).mono ?_; rintro e w9 ⟨rfl, rfl⟩
      rw [show (rS true lft').tells = 16 from rfl]
      go_wp2_with fail
      refine (err_ok p v8 _ _ HR.out.1).mono ?_; rintro e w9 ⟨rfl, rfl⟩
      rw [show (rS true lft').tells = 16 from rfl]
      go_wp2
      exact ⟨⟨k + 1, lft', true, v8, by simp, by omega, by omega, rfl, HK.out.1, hl', (fun h => by first | exact HK.out.2.2.2.2.2 trivial | exact absurd h (by decide)), HR.out.1, HR.out.2.1⟩, by simp [intOf]; omega⟩
    | false =>
      refine (err_ok p v8 _ _ HR.out.1).mono ?_; rintro e w9 ⟨rfl, rfl⟩
      rw [show (rS false lft').tells = 0 from rfl]
      go_wp2_with fail
      refine (err_ok p v8 _ _ HR.out.1).mono ?_; rintro e w9 ⟨rfl, rfl⟩
      rw [show (rS false lft').tells = 0 from rfl]
      go_wp2
      exact ⟨⟨k + 1, lft', false, v8, by simp, by omega, by omega, rfl, HK.out.1, hl', (fun h => by first | exact HK.out.2.2.2.2.2 trivial | exact absurd h (by decide)), HR.out.1, HR.out.2.1⟩, by simp [intOf]; omega⟩
  · have HH := Lib.hid hbel
    clear hat hbad hbel
    by_cases h1 : k < F.length
    · have d1 : decide ((k : Int) < F.length) = true := decide_eq_true (by omega)
      have d2 : decide ((k : Int) < 30) = false := decide_eq_false (by omega)
      go_wp2
      go_ret
      exact ⟨rfl, HH.out⟩
    · have d1 : decide ((k : Int) < F.length) = false := decide_eq_false (by omega)
      go_wp2
      go_ret
      exact ⟨rfl, HH.out⟩
end Go.Proofs.Ytjikndfpkhgnkaa.Lt
