/- The walk over FrameTells. -/
import Derived.Test.YtkjapmafipnmpaaF7
import Derived.Test.YtkjapmafipnmpaaF9
import Derived.Test.YtkjapmafipnmpaaF4
import Derived.Deep.CutBlock
namespace Go.Proofs.Ytkjapmafipnmpaa.Fm
open Go.RowKit Lt
set_option linter.unusedVariables false
set_option linter.unusedSimpArgs false
set_option maxHeartbeats 8000000 in
set_option maxRecDepth 100000 in
theorem ftells_walk (k : Int) (s : StS) (vt : Value) (t : List UInt8) (vb : Value) (b : List UInt8) (w : World) (hk : -9223372036854775808 ≤ k ∧ k ≤ 9223372036854775807) (hs : s.fine) (hvt : BRd w vt t) (htl : t.length ≤ 140737488351232) (hvb : BRd w vb b) (hbl : b.length ≤ 140737488351232) :
    Calls Try.prog 10 #[.int .i64 k, sv s, vt, vb] w fun e w' => e = .returned (.bool true) ∧ Below w.heap.size w w' := by
  have HV := Lib.hid (And.intro hvt (And.intro hvb (And.intro hk hs))); clear hk hs
  obtain ⟨At, ct, rfl, _, _, _⟩ := hvt
  obtain ⟨Ab, cb, rfl, _, _, _⟩ := hvb
  have hg := alloc_at (w := w) (.cells #[.int .i64 s.ep, .int .i64 s.sq, .int .i64 s.pos] 84) rfl
  have hb0 := below_alloc1 w (.cells #[.int .i64 s.ep, .int .i64 s.sq, .int .i64 s.pos] 84)
  have HG := Lib.hid (And.intro hg hb0); clear hg hb0
  go_enter Try.func10, Try.ntmps10
  go_wp2_with fail
  generalize (w.alloc _) = w0 at *
  refine (alive_ok _).mono ?_; rintro e w1 ⟨rfl, hb⟩
  obtain ⟨q0, q1, q2⟩ := cells3 (block_up HG.out.1 hb)
  have H1 := Lib.hid hb; clear hb
  obtain ⟨E, hE⟩ : ∃ e, secE k s t.length = e := ⟨_, rfl⟩
  obtain ⟨B, hB⟩ : ∃ b, (if E = 0 then secB k s t else []) = b := ⟨_, rfl⟩
  have hse := fun (W : World) (hb : Below w0.heap.size w0 W) => seal_ok k s _ t W (HV.out.1.below (below_up HG.out.2 hb)) htl HV.out.2.2.1 HV.out.2.2.2
  have hsc := fun (W : World) (hb : Below w0.heap.size w0 W) => sector_ok k s _ t W (HV.out.1.below (below_up HG.out.2 hb))
  simp only [hE, hB] at hse hsc
  have hop := fun (W : World) (hb : Below w0.heap.size w0 W) => open_any _ b W (HV.out.2.1.below (below_up HG.out.2 hb)) hbl
  have hrd := fun (W : World) (hb : Below w0.heap.size w0 W) => read_ok _ b W (HV.out.2.1.below (below_up HG.out.2 hb)) hbl
  have hs1 := fun (W : World) (hb : Below w0.heap.size w0 W) => sound_ok _ b W (HV.out.2.1.below (below_up HG.out.2 hb)) hbl
  have hs2 := fun (W : World) (hb : Below w0.heap.size w0 W) => refsound_ok _ b W (HV.out.2.1.below (below_up HG.out.2 hb)) hbl
  have HC := Lib.hid (And.intro hse (And.intro hsc (And.intro hop (And.intro hrd (And.intro hs1 hs2))))); clear hse hsc hop hrd hs1 hs2 hE hB
  go_wp2_with fail
  (with_reducible refine (HC.out.1 _ H1.out).mono ?_); rintro e w2 ⟨x, rfl, hx, hb⟩
  have H2 := Lib.hid (And.intro hx (below_up H1.out hb)); clear hx hb q0 q1 q2
  obtain ⟨q0, q1, q2⟩ := cells3 (block_up HG.out.1 H2.out.2)
  go_wp2_with fail
  (with_reducible refine (HC.out.2.1 _ H2.out.2).mono ?_); rintro e w3 ⟨y, rfl, hy, hb⟩
  have H3 := Lib.hid (And.intro (H2.out.1.below hb) (And.intro hy (below_up H2.out.2 hb))); clear hy hb q0 q1 q2
  obtain ⟨K, hK⟩ : ∃ n, oK b = n := ⟨_, rfl⟩
  obtain ⟨S, hS⟩ : ∃ n, oS b = n := ⟨_, rfl⟩
  obtain ⟨T, hT⟩ : ∃ n, oT b = n := ⟨_, rfl⟩
  obtain ⟨OE, hOE⟩ : ∃ n, oE b = n := ⟨_, rfl⟩
  obtain ⟨R, hR⟩ : ∃ n, decide (okR b) = n := ⟨_, rfl⟩
  obtain ⟨Z, hZ⟩ : ∃ n, snd b = n := ⟨_, rfl⟩
  have hc3 := HC.out.2.2
  simp only [hK, hS, hT, hOE, hR, hZ] at hc3
  have HC3 := Lib.hid hc3; clear hc3
  have hcase : (R = true ∧ OE = 0) ∨ (R = false ∧ OE = 16) := by
    by_cases ho : okR b
    · exact .inl ⟨by rw [← hR]; exact decide_eq_true ho, by rw [← hOE]; exact (o_yes ho).2.2.2⟩
    · exact .inr ⟨by rw [← hR]; exact decide_eq_false ho, by rw [← hOE]; exact (o_no ho).2.2.2⟩
  have HCA := Lib.hid hcase; clear hcase hK hS hT hOE hR hZ
  go_wp2_with fail
  (with_reducible refine (HC3.out.1 _ H3.out.2.2).mono ?_); rintro e w4 ⟨u, rfl, hu, hb⟩
  have hz := alloc_at (w := w4) (.cells #[.int .i64 S.ep, .int .i64 S.sq, .int .i64 S.pos] 84) rfl
  have ha4 := below_alloc1 w4 (.cells #[.int .i64 S.ep, .int .i64 S.sq, .int .i64 S.pos] 84)
  have hba := below_up hb ha4
  have H4 := Lib.hid (And.intro (H3.out.1.below hba) (And.intro (H3.out.2.1.below hba) (And.intro (below_up H3.out.2.2 hba) (And.intro hz (hu.below ha4))))); clear hz hba hb hu ha4
  go_wp2_with fail
  generalize (w4.alloc _) = w5 at *
  (with_reducible refine (HC3.out.2.1 _ H4.out.2.2.1).mono ?_); rintro e w6 ⟨v, rfl, hv, hb⟩
  have hz := alloc_at (w := w6) (.cells #[.int .i64 S.ep, .int .i64 S.sq, .int .i64 S.pos] 84) rfl
  have hba := below_up hb (below_alloc1 w6 (.cells #[.int .i64 S.ep, .int .i64 S.sq, .int .i64 S.pos] 84))
  have hcx := conv_brd H4.out.1 hba
  have hcy := conv_brd H4.out.2.1 hba
  have hcu := conv_brd H4.out.2.2.2.2 hba
  have hcv := conv_brd hv (below_alloc1 w6 (.cells #[.int .i64 S.ep, .int .i64 S.sq, .int .i64 S.pos] 84))
  obtain ⟨p0, p1, p2⟩ := cells3 (block_up H4.out.2.2.2.1 hba)
  obtain ⟨r0, r1, r2⟩ := cells3 hz
  have H6 := Lib.hid (below_up H4.out.2.2.1 hba); clear hz hba hb hv
  go_upto_region 7 with (fail)
  generalize (w6.alloc _) = w7 at *
  generalize bstr B = sB at *
  generalize bstr T = sT at *
  have he : ∀ W : World, (binOp .eql 84 (sv S) (sv S)).run Try.prog W = .ok (.bool true) W := fun W => by rw [eqlS_d, decide_eq_true rfl]
  have hss1 : (sB == sB) = true := (MapKept.bytes_beq _ _).2 rfl
  have hss2 : (sT == sT) = true := (MapKept.bytes_beq _ _).2 rfl
  rcases HCA.out with ⟨rfl, rfl⟩ | ⟨rfl, rfl⟩
  all_goals
    cases Z
    all_goals
      go_wp2_with (first
        | (go_at_call 49; (with_reducible refine (HC3.out.2.2.1 _ H6.out).mono ?_); rintro e w8 ⟨rfl, hb⟩; have H8 := Lib.hid (below_up H6.out hb); clear hb)
        | (go_at_call 50; (with_reducible refine (HC3.out.2.2.2 _ H8.out).mono ?_); rintro e w9 ⟨rfl, hb⟩; have H9 := Lib.hid (below_up H8.out hb); clear hb))
      go_ret
      exact ⟨ret_bool (by first | rfl | simp), below_up HG.out.2 H9.out⟩
end Go.Proofs.Ytkjapmafipnmpaa.Fm
