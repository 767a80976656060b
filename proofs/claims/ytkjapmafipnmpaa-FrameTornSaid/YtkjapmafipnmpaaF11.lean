/- The walk over FrameBack. -/
import Derived.Test.YtkjapmafipnmpaaF9
namespace Go.Proofs.Ytkjapmafipnmpaa.Fm
open Go.RowKit Lt
set_option linter.unusedVariables false
set_option linter.unusedSimpArgs false
theorem secE_zero {k : Int} {s : StS} {n : Nat} (h : secE k s n = 0) : ¬ bad k s ∧ n ≤ 238 := by
  unfold secE at h
  by_cases hb : bad k s
  · rw [if_pos hb] at h; cases h
  · rw [if_neg hb] at h
    by_cases hn : 238 < n
    · rw [if_pos hn] at h; cases h
    · exact ⟨hb, by omega⟩
set_option maxHeartbeats 8000000 in
set_option maxRecDepth 100000 in
theorem fback_walk (k : Int) (s : StS) (vt : Value) (t : List UInt8) (k2 : Int) (s2 : StS) (w : World) (hk : -9223372036854775808 ≤ k ∧ k ≤ 9223372036854775807) (hs : s.fine) (hvt : BRd w vt t) (htl : t.length ≤ 140737488351232) :
    Calls Try.prog 11 #[.int .i64 k, sv s, vt, .int .i64 k2, sv s2] w fun e w' => e = .returned (.bool true) ∧ Below w.heap.size w w' := by
  have HV := Lib.hid (And.intro hvt (And.intro hk hs)); clear hk hs
  obtain ⟨At, ct, rfl, _, _, _⟩ := hvt
  have hg := alloc_old (alloc_at (w := w) (.cells #[.int .i64 s.ep, .int .i64 s.sq, .int .i64 s.pos] 84) rfl) (.cells #[.int .i64 s2.ep, .int .i64 s2.sq, .int .i64 s2.pos] 84)
  have hg2 := alloc_at (w := w.alloc (.cells #[.int .i64 s.ep, .int .i64 s.sq, .int .i64 s.pos] 84)) (n := w.heap.size + 1) (.cells #[.int .i64 s2.ep, .int .i64 s2.sq, .int .i64 s2.pos] 84) (by simp)
  have hb0 := below_alloc (below_alloc1 w (.cells #[.int .i64 s.ep, .int .i64 s.sq, .int .i64 s.pos] 84)) (.cells #[.int .i64 s2.ep, .int .i64 s2.sq, .int .i64 s2.pos] 84)
  have HG := Lib.hid (And.intro hg (And.intro hg2 hb0)); clear hg hg2 hb0
  go_enter Try.func11, Try.ntmps11
  go_wp2_with fail
  generalize ((w.alloc _).alloc _) = w0 at *
  refine (alive_ok _).mono ?_; rintro e w1 ⟨rfl, hb⟩
  obtain ⟨q0, q1, q2⟩ := cells3 (block_up HG.out.1 hb)
  have H1 := Lib.hid hb; clear hb
  obtain ⟨E, hE⟩ : ∃ e, secE k s t.length = e := ⟨_, rfl⟩
  have hse := seal_ok k s _ t w1 (HV.out.1.below (below_up HG.out.2.2 H1.out)) htl HV.out.2.1 HV.out.2.2
  rw [hE] at hse
  have HE := Lib.hid (And.intro hE hse); clear hE hse
  go_wp2_with fail
  (with_reducible refine HE.out.2.mono ?_); rintro e w2 ⟨x, rfl, hx, hb⟩
  by_cases hE0 : E = 0
  · subst hE0
    obtain ⟨hnb, hn⟩ := secE_zero HE.out.1
    rw [if_pos rfl] at hx
    have hback := sec_back (t := t) hnb hn
    have hsnd := sec_snd (k := k) (s := s) hn
    have hsl := secB_len k s t hn
    obtain ⟨SB, hSB⟩ : ∃ b, secB k s t = b := ⟨_, rfl⟩
    rw [hSB] at hx hback hsnd hsl
    obtain ⟨g1, g2, g3, g4⟩ := hback
    obtain ⟨o1, o2, o3, o4⟩ := o_yes g1
    have hop := open_any _ SB w2 hx (by omega)
    rw [o1, o2, o3, o4, g2, g3, g4] at hop
    have hiB : isB SB k2 s2 = decide (k = k2 ∧ s = s2) := by unfold isB; rw [decide_eq_decide, g2, g3]; exact ⟨fun h => h.2, fun h => ⟨g1, h⟩⟩
    have hso := fun (W : World) (hb : Below w2.heap.size w2 W) => sound_ok _ SB W (hx.below hb) (by omega)
    rw [hsnd] at hso
    have his := fun (W : World) (hb : Below w2.heap.size w2 W) => is_ok _ SB k2 s2 W (hx.below hb) (by omega)
    rw [hiB] at his
    obtain ⟨Ax, cx, rfl, _, _, _⟩ := id hx
    have H2 := Lib.hid (And.intro hop (And.intro hso (And.intro his (below_up H1.out hb)))); clear hop hso his hb hx g1 g2 g3 g4 o1 o2 o3 o4 hsnd hsl hSB hnb hn q0 q1 q2 hiB
    go_wp2_with fail
    (with_reducible refine H2.out.1.mono ?_); rintro e w3 ⟨u, rfl, hu, hb⟩
    have hz := alloc_at (w := w3) (.cells #[.int .i64 s.ep, .int .i64 s.sq, .int .i64 s.pos] 84) rfl
    have ha := below_alloc1 w3 (.cells #[.int .i64 s.ep, .int .i64 s.sq, .int .i64 s.pos] 84)
    have hba := below_up hb ha
    have hbw := below_up H2.out.2.2.2 hba
    have hcu := conv_brd hu ha
    have hct := conv_brd HV.out.1 (below_up HG.out.2.2 hbw)
    obtain ⟨p0, p1, p2⟩ := cells3 (block_up HG.out.1 hbw)
    obtain ⟨r0, r1, r2⟩ := cells3 hz
    have HQ := fun (W : World) (hb : Below w0.heap.size w0 W) => And.intro (cells3 (block_up HG.out.1 hb)) (cells3 (block_up HG.out.2.1 hb))
    have HQ := Lib.hid HQ
    have H3 := Lib.hid (And.intro hba hbw); clear hba hbw hb hu ha hz
    go_upto_region 7 with (fail)
    generalize (w3.alloc _) = w4 at *
    generalize bstr t = sT at *
    have he : ∀ W : World, (binOp .eql 84 (sv s) (sv s)).run Try.prog W = .ok (.bool true) W := fun W => by rw [eqlS_d, decide_eq_true rfl]
    have hss2 : (sT == sT) = true := (MapKept.bytes_beq _ _).2 rfl
    by_cases c1 : k2 = k
    · subst c1
      have e2 := fun (W : World) => eqlS_d s2 s W
      by_cases c2 : s2 = s
      · have hd : decide (k2 = k2 ∧ s = s2) = true := decide_eq_true ⟨rfl, c2.symm⟩
        rw [hd] at H2
        simp only [decide_eq_true c2] at e2
        clear c2 hd
        go_wp2_with (first
          | (go_at_call 49; (with_reducible refine (H2.out.2.1 _ H3.out.1).mono ?_); rintro e w8 ⟨rfl, hb⟩; obtain ⟨⟨a0, a1, a2⟩, b0, b1, b2⟩ := HQ.out _ (below_up H3.out.2 hb); have H8 := Lib.hid (And.intro (below_up H3.out.1 hb) (below_up H3.out.2 hb)); clear hb)
          | (go_at_call 51; (with_reducible refine (H2.out.2.2.1 _ H8.out.1).mono ?_); rintro e w9 ⟨rfl, hb⟩; obtain ⟨⟨a0, a1, a2⟩, b0, b1, b2⟩ := HQ.out _ (below_up H8.out.2 hb); have H9 := Lib.hid (below_up H8.out.2 hb); clear hb))
        go_ret
        exact ⟨ret_bool (by first | rfl | simp), below_up HG.out.2.2 H9.out⟩
      · have hd : decide (k2 = k2 ∧ s = s2) = false := decide_eq_false (fun h => c2 h.2.symm)
        rw [hd] at H2
        simp only [decide_eq_false c2] at e2
        clear c2 hd
        go_wp2_with (first
          | (go_at_call 49; (with_reducible refine (H2.out.2.1 _ H3.out.1).mono ?_); rintro e w8 ⟨rfl, hb⟩; obtain ⟨⟨a0, a1, a2⟩, b0, b1, b2⟩ := HQ.out _ (below_up H3.out.2 hb); have H8 := Lib.hid (And.intro (below_up H3.out.1 hb) (below_up H3.out.2 hb)); clear hb)
          | (go_at_call 51; (with_reducible refine (H2.out.2.2.1 _ H8.out.1).mono ?_); rintro e w9 ⟨rfl, hb⟩; obtain ⟨⟨a0, a1, a2⟩, b0, b1, b2⟩ := HQ.out _ (below_up H8.out.2 hb); have H9 := Lib.hid (below_up H8.out.2 hb); clear hb))
        go_ret
        exact ⟨ret_bool (by first | rfl | simp), below_up HG.out.2.2 H9.out⟩
    · have hd : decide (k = k2 ∧ s = s2) = false := decide_eq_false (fun h => c1 h.1.symm)
      rw [hd] at H2
      have e1 : (k2 == k) = false := by simpa using c1
      clear c1 hd
      go_wp2_with (first
        | (go_at_call 49; (with_reducible refine (H2.out.2.1 _ H3.out.1).mono ?_); rintro e w8 ⟨rfl, hb⟩; obtain ⟨⟨a0, a1, a2⟩, b0, b1, b2⟩ := HQ.out _ (below_up H3.out.2 hb); have H8 := Lib.hid (And.intro (below_up H3.out.1 hb) (below_up H3.out.2 hb)); clear hb)
        | (go_at_call 51; (with_reducible refine (H2.out.2.2.1 _ H8.out.1).mono ?_); rintro e w9 ⟨rfl, hb⟩; obtain ⟨⟨a0, a1, a2⟩, b0, b1, b2⟩ := HQ.out _ (below_up H8.out.2 hb); have H9 := Lib.hid (below_up H8.out.2 hb); clear hb))
      go_ret
      exact ⟨ret_bool (by first | rfl | simp), below_up HG.out.2.2 H9.out⟩
  · rw [if_neg hE0] at hx
    have e1 : (E != 0) = true := by simpa using hE0
    obtain ⟨Ax, cx, rfl, _, _, _⟩ := id hx
    have H2 := Lib.hid (below_up H1.out hb); clear hx hb hE0
    go_wp2
    go_ret
    exact ⟨ret_bool (by first | rfl | simp), below_up HG.out.2.2 H2.out⟩
end Go.Proofs.Ytkjapmafipnmpaa.Fm
